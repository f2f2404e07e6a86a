/- Commands as bytes. -/
import Derived.Test.YtmgobaojioaioaaVd
import Derived.Test.YtmgobaojioaioaaUe
namespace Go.Proofs.Ytmgobaojioaioaa
open Go Go.RowKit Go.Lib
variable {W : World}
def oI (v : Int) (m : Nat) (n : Int) : List UInt8 := if hasC v m then enc (zig n) else []
def oU (v : Int) (m : Nat) (n : Int) : List UInt8 := if hasC v m then enc n.toNat else []
def oR (v : Int) (r : RuV) : List UInt8 := if hasC v 1024 then ruB r else []
def cb0 (x : CmdV) : List UInt8 := enc x.kind.toNat ++ (enc x.client.toNat ++ enc x.req.toNat)
def cb1 (v : Int) (x : CmdV) : List UInt8 := cb0 x ++ oI v 1 x.account
def cb2 (v : Int) (x : CmdV) : List UInt8 := cb1 v x ++ oI v 16 x.asset
def cb3 (v : Int) (x : CmdV) : List UInt8 := cb2 v x ++ oU v 2 x.id
def cb4 (v : Int) (x : CmdV) : List UInt8 := cb3 v x ++ oI v 4 x.side
def cb5 (v : Int) (x : CmdV) : List UInt8 := cb4 v x ++ oI v 8 x.typ
def cb6 (v : Int) (x : CmdV) : List UInt8 := cb5 v x ++ oI v 32 x.price
def cb7 (v : Int) (x : CmdV) : List UInt8 := cb6 v x ++ oI v 64 x.qty
def cb8 (v : Int) (x : CmdV) : List UInt8 := cb7 v x ++ oI v 128 x.replica
def cb9 (v : Int) (x : CmdV) : List UInt8 := cb8 v x ++ oI v 256 x.version
def cb10 (v : Int) (x : CmdV) : List UInt8 := cb9 v x ++ oU v 512 x.at_
def cb11 (v : Int) (x : CmdV) : List UInt8 := cb10 v x ++ oR v x.rules
def cbB (x : CmdV) : List UInt8 := cb11 (cfl x.kind) x
def cbE (x : CmdV) : Int := if sndC x then (if 512 < (cbB x).length then 21 else 0) else 2
def cbL (x : CmdV) : List UInt8 := if cbE x = 0 then cbB x else []
theorem cbE_no {x : CmdV} (h : sndC x = false) : cbE x = 2 ∧ cbL x = [] := by
  have e : cbE x = 2 := by unfold cbE; rw [h]; rfl
  exact ⟨e, by unfold cbL; rw [e]; rfl⟩
theorem cbE_big {x : CmdV} (h : sndC x = true) (hl : 512 < (cbB x).length) : cbE x = 21 ∧ cbL x = [] := by
  have e : cbE x = 21 := by unfold cbE; rw [h, if_pos rfl, if_pos hl]
  exact ⟨e, by unfold cbL; rw [e]; rfl⟩
theorem cbE_ok {x : CmdV} (h : sndC x = true) (hl : ¬ 512 < (cbB x).length) : cbE x = 0 ∧ cbL x = cbB x := by
  have e : cbE x = 0 := by unfold cbE; rw [h, if_pos rfl, if_neg hl]
  exact ⟨e, by unfold cbL; rw [if_pos e]⟩
theorem oI_len {v : Int} {m : Nat} {n : Int} (h : -9223372036854775808 ≤ n ∧ n ≤ 9223372036854775807) : (oI v m n).length ≤ 10 := by
  unfold oI
  split
  · exact zlen h
  · exact Nat.zero_le _
theorem oU_len {v : Int} {m : Nat} {n : Int} (h : 0 ≤ n ∧ n < 18446744073709551616) : (oU v m n).length ≤ 10 := by
  unfold oU
  split
  · exact enc_ten (by omega)
  · exact Nat.zero_le _
theorem oR_len {W : World} {v : Int} {r : RuV} (h : r.Gd W) : (oR v r).length ≤ 50000090 := by
  unfold oR
  split
  · exact (ru_lens h).2.2.2.2.2
  · exact Nat.zero_le _
theorem cb_lens {W : World} {x : CmdV} (hx : x.Gd W) (hk : 0 ≤ x.kind) (v : Int) : (cb0 x).length ≤ 30 ∧ (cb1 v x).length ≤ 40 ∧ (cb2 v x).length ≤ 50 ∧ (cb3 v x).length ≤ 60 ∧ (cb4 v x).length ≤ 70 ∧ (cb5 v x).length ≤ 80 ∧ (cb6 v x).length ≤ 90 ∧ (cb7 v x).length ≤ 100 ∧ (cb8 v x).length ≤ 110 ∧ (cb9 v x).length ≤ 120 ∧ (cb10 v x).length ≤ 130 ∧ (cb11 v x).length ≤ 50000220 := by
  have a1 := enc_ten (n := x.kind.toNat) (by have := hx.kind; omega)
  have a2 := enc_ten (n := x.client.toNat) (by have := hx.client; omega)
  have a3 := enc_ten (n := x.req.toNat) (by have := hx.req; omega)
  have b1 := oI_len (v := v) (m := 1) hx.account
  have b2 := oI_len (v := v) (m := 16) hx.asset
  have b3 := oU_len (v := v) (m := 2) hx.id
  have b4 := oI_len (v := v) (m := 4) hx.side
  have b5 := oI_len (v := v) (m := 8) hx.typ
  have b6 := oI_len (v := v) (m := 32) hx.price
  have b7 := oI_len (v := v) (m := 64) hx.qty
  have b8 := oI_len (v := v) (m := 128) hx.replica
  have b9 := oI_len (v := v) (m := 256) hx.version
  have b10 := oU_len (v := v) (m := 512) hx.at_
  have b11 := oR_len (v := v) hx.rules
  have l0 : (cb0 x).length ≤ 30 := by unfold cb0; rw [List.length_append, List.length_append]; omega
  have l1 : (cb1 v x).length ≤ 40 := by unfold cb1; rw [List.length_append]; omega
  have l2 : (cb2 v x).length ≤ 50 := by unfold cb2; rw [List.length_append]; omega
  have l3 : (cb3 v x).length ≤ 60 := by unfold cb3; rw [List.length_append]; omega
  have l4 : (cb4 v x).length ≤ 70 := by unfold cb4; rw [List.length_append]; omega
  have l5 : (cb5 v x).length ≤ 80 := by unfold cb5; rw [List.length_append]; omega
  have l6 : (cb6 v x).length ≤ 90 := by unfold cb6; rw [List.length_append]; omega
  have l7 : (cb7 v x).length ≤ 100 := by unfold cb7; rw [List.length_append]; omega
  have l8 : (cb8 v x).length ≤ 110 := by unfold cb8; rw [List.length_append]; omega
  have l9 : (cb9 v x).length ≤ 120 := by unfold cb9; rw [List.length_append]; omega
  have l10 : (cb10 v x).length ≤ 130 := by unfold cb10; rw [List.length_append]; omega
  exact ⟨l0, l1, l2, l3, l4, l5, l6, l7, l8, l9, l10, by unfold cb11; rw [List.length_append]; omega⟩
theorem snd_kind {x : CmdV} (h : sndC x = true) : 1 ≤ x.kind ∧ x.kind ≤ 15 := by
  unfold sndC cok at h
  simp only [Bool.and_eq_true, decide_eq_true_eq] at h
  exact h.1
attribute [local irreducible] blkA rowA wrA
set_option maxRecDepth 100000 in
theorem cnum_no {w : World} {R : List Asn} {g4 g6 : Nat} {v m n : Int} {bs : List UInt8} (h : decide (IntKind.i64.wrap (BitVec.ofInt IntKind.i64.bits v &&& BitVec.ofInt IntKind.i64.bits m).toNat = 0) = true) (hS : St W w (wrA g6 bs :: blkA g4 3 [.int .i64 v] :: R)) (hn : -9223372036854775808 ≤ n ∧ n ≤ 9223372036854775807) (hb : bs.length ≤ 1000000000) : Calls Try.prog 93 #[.int .i64 m, .int .i64 n, .pointer (some ⟨g4, 0, none⟩), .pointer (some ⟨g6, 0, none⟩)] w fun e w' => e = .returned (.tuple #[]) ∧ St W w' (wrA g6 (bs) :: blkA g4 3 [.int .i64 v] :: R) := by
  refine calls_of_wpE (args := [_, _, _, _]) Try.func93 rfl rfl rfl ?_
  refine c_seq ?_
  refine c_region ?_
  refine t_q (q_load1 Try.isAgg3 rfl (hS.cell (by repeat first | exact .here _ _ | assumption | apply Pick.there) rfl)) ?_
  refine t_q (q_mv (.int _ _) rfl) ?_
  refine t_q (q_and rfl rfl) ?_
  refine t_q (q_neq rfl rfl) ?_
  refine t_nil ?_
  refine c_cond_f rfl (and_ne (b := false) (by rw [h]; rfl)) ?_
  refine c_skip ?_
  refine r_none rfl  ?_
  exact ⟨rfl, ((hS.pick (A := blkA g4 3 [.int .i64 v]) (by repeat first | exact .here _ _ | assumption | apply Pick.there)).pick (A := wrA g6 _) (by repeat first | exact .here _ _ | assumption | apply Pick.there))⟩
set_option maxRecDepth 100000 in
theorem cnum_yes {w : World} {R : List Asn} {g4 g6 : Nat} {v m n : Int} {bs : List UInt8} (h : decide (IntKind.i64.wrap (BitVec.ofInt IntKind.i64.bits v &&& BitVec.ofInt IntKind.i64.bits m).toNat = 0) = false) (hS : St W w (wrA g6 bs :: blkA g4 3 [.int .i64 v] :: R)) (hn : -9223372036854775808 ≤ n ∧ n ≤ 9223372036854775807) (hb : bs.length ≤ 1000000000) : Calls Try.prog 93 #[.int .i64 m, .int .i64 n, .pointer (some ⟨g4, 0, none⟩), .pointer (some ⟨g6, 0, none⟩)] w fun e w' => e = .returned (.tuple #[]) ∧ St W w' (wrA g6 (bs ++ enc (zig n)) :: blkA g4 3 [.int .i64 v] :: R) := by
  refine calls_of_wpE (args := [_, _, _, _]) Try.func93 rfl rfl rfl ?_
  refine c_seq ?_
  refine c_region ?_
  refine t_q (q_load1 Try.isAgg3 rfl (hS.cell (by repeat first | exact .here _ _ | assumption | apply Pick.there) rfl)) ?_
  refine t_q (q_mv (.int _ _) rfl) ?_
  refine t_q (q_and rfl rfl) ?_
  refine t_q (q_neq rfl rfl) ?_
  refine t_nil ?_
  refine c_cond_t rfl (and_ne (b := true) (by rw [h]; rfl)) ?_
  refine c_region ?_
  refine t_q (q_mv (.int _ _) rfl) ?_
  refine t_build_ints [_] Try.runUnderlying158 Try.sizeOf2 Try.zeroValue2 rfl rfl (by decide) hS (fun g11 w hS => ?_)
  refine t_call Try.call83 (Int_calls (ns := [n]) hS (by repeat first | exact .here _ _ | assumption | apply Pick.there) (fun _ h => h.rowInts (.here _ _) rfl) (by intro m hm; simp only [List.mem_cons, List.not_mem_nil, or_false] at hm; omega) (by simp) (by omega)) rfl ?_
  rintro e w ⟨rfl, hS⟩
  refine ⟨_, rfl, ?_⟩
  replace hS := hS.swap.recast (congrArg (wrA g6) (show _ = bs ++ enc (zig n) from by simp [ints]))
  refine t_nil ?_
  refine r_none rfl  ?_
  exact ⟨rfl, hS⟩
theorem cnum_calls {w : World} {R : List Asn} {g4 g6 : Nat} {v n : Int} {m : Nat} {bs : List UInt8} (h : decide (IntKind.i64.wrap (BitVec.ofInt IntKind.i64.bits v &&& BitVec.ofInt IntKind.i64.bits ((m : Nat) : Int)).toNat = 0) = !hasC v m) (hS : St W w (wrA g6 bs :: blkA g4 3 [.int .i64 v] :: R)) (hn : -9223372036854775808 ≤ n ∧ n ≤ 9223372036854775807) (hb : bs.length ≤ 1000000000) : Calls Try.prog 93 #[.int .i64 ((m : Nat) : Int), .int .i64 n, .pointer (some ⟨g4, 0, none⟩), .pointer (some ⟨g6, 0, none⟩)] w fun e w' => e = .returned (.tuple #[]) ∧ St W w' (wrA g6 (bs ++ oI v m n) :: blkA g4 3 [.int .i64 v] :: R) := by
  cases hb2 : hasC v m with
  | true =>
    have e : oI v m n = enc (zig n) := by unfold oI; rw [hb2]; rfl
    rw [hb2] at h
    rw [e]
    exact cnum_yes h hS hn hb
  | false =>
    have e : oI v m n = [] := by unfold oI; rw [hb2]; rfl
    rw [hb2] at h
    rw [e, List.append_nil]
    exact cnum_no h hS hn hb
set_option maxHeartbeats 4000000 in
set_option maxRecDepth 100000 in
theorem cbytes_calls {x : CmdV} (hx : x.Gd W) : Calls Try.prog 43 #[.agg x.cells.toArray] W fun e w' => ∃ A' c', e = .returned (.tuple #[.slice A' (cbL x).length c', .int .i64 (cbE x)]) ∧ St W w' [rowA 5 1 A' (cbL x).length c' ((cbL x).map bv)] := by
  have hS := St.init W
  refine calls_of_wpE (args := [_]) Try.func43 rfl rfl rfl ?_
  refine c_seq ?_
  refine c_region ?_
  refine t_box (v := (.agg _)) rfl rfl hS (fun g1 w hS => ?_)
  replace hS := hS.recast (show _ = blkA g1 49 [.int .i64 x.kind, .int .u64 x.client, .int .u64 x.req, .int .i64 x.account, .int .u64 x.id, .int .i64 x.side, .int .i64 x.typ, .int .i64 x.asset, .int .i64 x.price, .int .i64 x.qty, .int .i64 x.version, .int .i64 x.replica, .int .u64 x.at_, .int .i64 x.rules.version, .slice x.rules.ticks.A x.rules.ticks.l.length x.rules.ticks.c, .int .i64 x.rules.lot, .int .i64 x.rules.band, .slice x.rules.fees.A x.rules.fees.l.length x.rules.fees.c, .int .i64 x.rules.round, .int .i64 x.rules.priority, .int .i64 x.rules.self, .int .i64 x.rules.layout] from rfl)
  refine t_q (q_assign) ?_
  refine t_q (q_assign) ?_
  refine t_nil ?_
  refine c_seq ?_
  refine c_seq ?_
  refine c_region ?_
  refine t_q (q_cast (v' := .agg x.cells.toArray) (q_load_blk Try.isAgg49 Try.sizeOf49 rfl (hS.blk (by repeat first | exact .here _ _ | assumption | apply Pick.there)) rfl) (by rfl)) ?_
  refine t_call Try.call48 (csound_calls (x := x) (hx.st hS)) rfl ?_
  rintro e w ⟨rfl, hT⟩
  refine ⟨_, rfl, ?_⟩
  replace hS := hS.after hT
  refine t_q (q_not rfl) ?_
  refine t_nil ?_
  refine c_cond rfl ?_ ?_
  · intro hc2
    obtain ⟨e1, e2⟩ := cbE_no (x := x) (not_back hc2)
    refine c_seq ?_
    refine c_region ?_
    refine t_q (q_assign) ?_
    refine t_q (q_assign) ?_
    refine t_nil ?_
    refine c_ret ?_
    refine r_two rfl rfl rfl ?_
    rw [e1, e2]
    first
      | exact ⟨none, 0, rfl, hS.nil.nilrow 5 1⟩
      | exact ⟨A80, c80, rfl, (hS.pick (A := rowA 5 1 A80 _ c80 _) (by repeat first | exact .here _ _ | assumption | apply Pick.there)).front1⟩
  · intro hc2
    have hsy : sndC x = true := not_back hc2
    obtain ⟨hk1, hk2⟩ := snd_kind hsy
    obtain ⟨l0, l1, l2, l3, l4, l5, l6, l7, l8, l9, l10, l11⟩ := cb_lens hx (by omega) (cfl x.kind)
    have qc := hx.client
    have qr := hx.req
    have qi := hx.id
    have qa := hx.at_
    refine c_skip ?_
    refine c_seq ?_
    refine c_region ?_
    refine t_q (q_fieldAddr 0 Try.runUnderlying49 rfl Try.sizeOf3 (by decide) rfl rfl) ?_
    refine t_q (q_load1 Try.isAgg3 rfl (hS.cell (by repeat first | exact .here _ _ | assumption | apply Pick.there) rfl)) ?_
    refine t_call Try.call92 (cfields_calls (n := x.kind)) rfl ?_
    rintro e w ⟨rfl, hT⟩
    refine ⟨_, rfl, ?_⟩
    replace hS := hS.after hT
    refine t_q (q_mv (.tuple _) rfl) ?_
    refine t_q (q_extract rfl rfl) ?_
    refine t_q (q_extract rfl rfl) ?_
    refine t_alloc Try.zeroValue3 rfl hS (fun g4 w hS => ?_)
    refine t_store (v := (.int _ _)) Try.sizeOf3 hS (by repeat first | exact .here _ _ | assumption | apply Pick.there) rfl rfl rfl rfl rfl rfl (fun w hS => ?_)
    replace hS := hS.recast (show blkA g4 3 _ = blkA g4 3 [.int .i64 (cfl x.kind)] from rfl)
    refine t_q (q_as (.bool _) rfl) ?_
    refine t_nil ?_
    refine c_seq ?_
    refine c_region ?_
    refine t_alloc Try.zeroValue76 rfl hS (fun g6 w hS => ?_)
    replace hS := hS.wr0
    refine t_nil ?_
    refine c_seq ?_
    refine c_region ?_
    refine t_q (q_fieldAddr 0 Try.runUnderlying49 rfl Try.sizeOf3 (by decide) rfl rfl) ?_
    refine t_q (q_load1 Try.isAgg3 rfl (hS.cell (by repeat first | exact .here _ _ | assumption | apply Pick.there) rfl)) ?_
    first | refine t_q (q_conv_u64 Try.runUnderlying3 Try.runUnderlying26 rfl (by omega)) ?_ | refine t_q (q_convm_u64 Try.runUnderlying3 Try.runUnderlying26 rfl) ?_
    refine t_q (q_fieldAddr 1 Try.runUnderlying49 rfl Try.sizeOf26 (by decide) rfl rfl) ?_
    refine t_q (q_load1 Try.isAgg26 rfl (hS.cell (by repeat first | exact .here _ _ | assumption | apply Pick.there) rfl)) ?_
    refine t_q (q_fieldAddr 2 Try.runUnderlying49 rfl Try.sizeOf26 (by decide) rfl rfl) ?_
    refine t_q (q_load1 Try.isAgg26 rfl (hS.cell (by repeat first | exact .here _ _ | assumption | apply Pick.there) rfl)) ?_
    refine t_build_ints [_, _, _] Try.runUnderlying190 Try.sizeOf26 Try.zeroValue26 rfl rfl (by decide) hS (fun g25 w hS => ?_)
    refine t_call Try.call84 (Nat_calls (ns := [x.kind, x.client, x.req]) hS (by repeat first | exact .here _ _ | assumption | apply Pick.there) (fun _ h => h.rowInts (.here _ _) rfl) (by intro m hm; simp only [List.mem_cons, List.not_mem_nil, or_false] at hm; omega) (by simp) (by first | (simp; done) | omega)) rfl ?_
    rintro e w ⟨rfl, hS⟩
    refine ⟨_, rfl, ?_⟩
    replace hS := hS.swap.recast (congrArg (wrA g6) (show _ = cb0 x from by simp [encs, cb0]))
    refine t_nil ?_
    refine c_seq ?_
    refine c_region ?_
    refine t_q (q_makeFunc rfl) ?_
    refine t_q (q_as (.func _ _ _) rfl) ?_
    refine t_nil ?_
    refine c_seq ?_
    refine c_region ?_
    refine t_q (q_mv (.func _ _ _) rfl) ?_
    refine t_q (q_fieldAddr 3 Try.runUnderlying49 rfl Try.sizeOf3 (by decide) rfl rfl) ?_
    refine t_q (q_load1 Try.isAgg3 rfl (hS.cell (by repeat first | exact .here _ _ | assumption | apply Pick.there) rfl)) ?_
    refine t_callv Try.call93 rfl (cnum_calls (v := (cfl x.kind)) (m := 1) (n := x.account) (and_cfl_1 _) ((hS.pick (A := blkA g4 3 [.int .i64 (cfl x.kind)]) (by repeat first | exact .here _ _ | assumption | apply Pick.there)).pick (A := wrA g6 _) (by repeat first | exact .here _ _ | assumption | apply Pick.there)) hx.account (by omega)) rfl ?_
    rintro e w ⟨rfl, hS⟩
    refine ⟨_, rfl, ?_⟩
    replace hS := hS.recast (show _ = wrA g6 (cb1 (cfl x.kind) x) from rfl)
    refine t_nil ?_
    refine c_seq ?_
    refine c_region ?_
    refine t_q (q_mv (.func _ _ _) rfl) ?_
    refine t_q (q_fieldAddr 7 Try.runUnderlying49 rfl Try.sizeOf3 (by decide) rfl rfl) ?_
    refine t_q (q_load1 Try.isAgg3 rfl (hS.cell (by repeat first | exact .here _ _ | assumption | apply Pick.there) rfl)) ?_
    refine t_callv Try.call93 rfl (cnum_calls (v := (cfl x.kind)) (m := 16) (n := x.asset) (and_cfl_16 _) ((hS.pick (A := blkA g4 3 [.int .i64 (cfl x.kind)]) (by repeat first | exact .here _ _ | assumption | apply Pick.there)).pick (A := wrA g6 _) (by repeat first | exact .here _ _ | assumption | apply Pick.there)) hx.asset (by omega)) rfl ?_
    rintro e w ⟨rfl, hS⟩
    refine ⟨_, rfl, ?_⟩
    replace hS := hS.recast (show _ = wrA g6 (cb2 (cfl x.kind) x) from rfl)
    refine t_nil ?_
    refine c_cut [36, 37, 38, 39, 40, 41, 42] (fun σ w => St W w [wrA g6 (cb3 (cfl x.kind) x), blkA g4 3 [.int .i64 (cfl x.kind)], blkA g1 49 [.int .i64 x.kind, .int .u64 x.client, .int .u64 x.req, .int .i64 x.account, .int .u64 x.id, .int .i64 x.side, .int .i64 x.typ, .int .i64 x.asset, .int .i64 x.price, .int .i64 x.qty, .int .i64 x.version, .int .i64 x.replica, .int .u64 x.at_, .int .i64 x.rules.version, .slice x.rules.ticks.A x.rules.ticks.l.length x.rules.ticks.c, .int .i64 x.rules.lot, .int .i64 x.rules.band, .slice x.rules.fees.A x.rules.fees.l.length x.rules.fees.c, .int .i64 x.rules.round, .int .i64 x.rules.priority, .int .i64 x.rules.self, .int .i64 x.rules.layout]]) rfl ?_ ?_
    ·
      refine c_seq ?_
      refine c_region ?_
      refine t_q (q_load1 Try.isAgg3 rfl (hS.cell (by repeat first | exact .here _ _ | assumption | apply Pick.there) rfl)) ?_
      refine t_q (q_and rfl rfl) ?_
      refine t_q (q_cast (v' := .bool (hasC (cfl x.kind) 2)) (q_neq rfl rfl) (congrArg Value.bool (and_ne (and_cfl_2 _)))) ?_
      refine t_nil ?_
      refine c_cond rfl ?_ ?_
      · intro hc10
        have hc10d := of_decide_eq_true hc10
        have hb2 := hc10
        refine c_region ?_
        refine t_q (q_fieldAddr 4 Try.runUnderlying49 rfl Try.sizeOf26 (by decide) rfl rfl) ?_
        refine t_q (q_load1 Try.isAgg26 rfl (hS.cell (by repeat first | exact .here _ _ | assumption | apply Pick.there) rfl)) ?_
        refine t_build_ints [_] Try.runUnderlying190 Try.sizeOf26 Try.zeroValue26 rfl rfl (by decide) hS (fun g41 w hS => ?_)
        refine t_call Try.call84 (Nat_calls (ns := [x.id]) hS (by repeat first | exact .here _ _ | assumption | apply Pick.there) (fun _ h => h.rowInts (.here _ _) rfl) (by intro m hm; simp only [List.mem_cons, List.not_mem_nil, or_false] at hm; omega) (by simp) (by first | (simp; done) | omega)) rfl ?_
        rintro e w ⟨rfl, hS⟩
        refine ⟨_, rfl, ?_⟩
        replace hS := hS.swap.recast (congrArg (wrA g6) (show _ = cb2 (cfl x.kind) x ++ enc x.id.toNat from by simp [encs, cb0]))
        refine t_nil ?_
        have eo : cb3 (cfl x.kind) x = cb2 (cfl x.kind) x ++ (if hasC (cfl x.kind) 2 then enc x.id.toNat else []) := rfl
        rw [hb2] at eo
        first
          | exact ((((hS.pick (A := blkA g1 49 [.int .i64 x.kind, .int .u64 x.client, .int .u64 x.req, .int .i64 x.account, .int .u64 x.id, .int .i64 x.side, .int .i64 x.typ, .int .i64 x.asset, .int .i64 x.price, .int .i64 x.qty, .int .i64 x.version, .int .i64 x.replica, .int .u64 x.at_, .int .i64 x.rules.version, .slice x.rules.ticks.A x.rules.ticks.l.length x.rules.ticks.c, .int .i64 x.rules.lot, .int .i64 x.rules.band, .slice x.rules.fees.A x.rules.fees.l.length x.rules.fees.c, .int .i64 x.rules.round, .int .i64 x.rules.priority, .int .i64 x.rules.self, .int .i64 x.rules.layout]) (by repeat first | exact .here _ _ | assumption | apply Pick.there)).pick (A := blkA g4 3 [.int .i64 (cfl x.kind)]) (by repeat first | exact .here _ _ | assumption | apply Pick.there)).pick (A := wrA g6 (cb2 (cfl x.kind) x ++ enc x.id.toNat)) (by repeat first | exact .here _ _ | assumption | apply Pick.there)).front3).recast (congrArg (wrA g6) eo.symm)
          | exact ((((hS.pick (A := blkA g1 49 [.int .i64 x.kind, .int .u64 x.client, .int .u64 x.req, .int .i64 x.account, .int .u64 x.id, .int .i64 x.side, .int .i64 x.typ, .int .i64 x.asset, .int .i64 x.price, .int .i64 x.qty, .int .i64 x.version, .int .i64 x.replica, .int .u64 x.at_, .int .i64 x.rules.version, .slice x.rules.ticks.A x.rules.ticks.l.length x.rules.ticks.c, .int .i64 x.rules.lot, .int .i64 x.rules.band, .slice x.rules.fees.A x.rules.fees.l.length x.rules.fees.c, .int .i64 x.rules.round, .int .i64 x.rules.priority, .int .i64 x.rules.self, .int .i64 x.rules.layout]) (by repeat first | exact .here _ _ | assumption | apply Pick.there)).pick (A := blkA g4 3 [.int .i64 (cfl x.kind)]) (by repeat first | exact .here _ _ | assumption | apply Pick.there)).pick (A := wrA g6 _) (by repeat first | exact .here _ _ | assumption | apply Pick.there)).front3).recast (congrArg (wrA g6) ((List.append_nil _).symm.trans eo.symm))
      · intro hc10
        have hc10d := of_decide_eq_false hc10
        have hb2 := hc10
        refine c_skip ?_
        have eo : cb3 (cfl x.kind) x = cb2 (cfl x.kind) x ++ (if hasC (cfl x.kind) 2 then enc x.id.toNat else []) := rfl
        rw [hb2] at eo
        first
          | exact ((((hS.pick (A := blkA g1 49 [.int .i64 x.kind, .int .u64 x.client, .int .u64 x.req, .int .i64 x.account, .int .u64 x.id, .int .i64 x.side, .int .i64 x.typ, .int .i64 x.asset, .int .i64 x.price, .int .i64 x.qty, .int .i64 x.version, .int .i64 x.replica, .int .u64 x.at_, .int .i64 x.rules.version, .slice x.rules.ticks.A x.rules.ticks.l.length x.rules.ticks.c, .int .i64 x.rules.lot, .int .i64 x.rules.band, .slice x.rules.fees.A x.rules.fees.l.length x.rules.fees.c, .int .i64 x.rules.round, .int .i64 x.rules.priority, .int .i64 x.rules.self, .int .i64 x.rules.layout]) (by repeat first | exact .here _ _ | assumption | apply Pick.there)).pick (A := blkA g4 3 [.int .i64 (cfl x.kind)]) (by repeat first | exact .here _ _ | assumption | apply Pick.there)).pick (A := wrA g6 (cb2 (cfl x.kind) x ++ enc x.id.toNat)) (by repeat first | exact .here _ _ | assumption | apply Pick.there)).front3).recast (congrArg (wrA g6) eo.symm)
          | exact ((((hS.pick (A := blkA g1 49 [.int .i64 x.kind, .int .u64 x.client, .int .u64 x.req, .int .i64 x.account, .int .u64 x.id, .int .i64 x.side, .int .i64 x.typ, .int .i64 x.asset, .int .i64 x.price, .int .i64 x.qty, .int .i64 x.version, .int .i64 x.replica, .int .u64 x.at_, .int .i64 x.rules.version, .slice x.rules.ticks.A x.rules.ticks.l.length x.rules.ticks.c, .int .i64 x.rules.lot, .int .i64 x.rules.band, .slice x.rules.fees.A x.rules.fees.l.length x.rules.fees.c, .int .i64 x.rules.round, .int .i64 x.rules.priority, .int .i64 x.rules.self, .int .i64 x.rules.layout]) (by repeat first | exact .here _ _ | assumption | apply Pick.there)).pick (A := blkA g4 3 [.int .i64 (cfl x.kind)]) (by repeat first | exact .here _ _ | assumption | apply Pick.there)).pick (A := wrA g6 _) (by repeat first | exact .here _ _ | assumption | apply Pick.there)).front3).recast (congrArg (wrA g6) ((List.append_nil _).symm.trans eo.symm))
    ·
      rintro σ w hS
      refine c_seq ?_
      refine c_region ?_
      refine t_q (q_mv (.func _ _ _) rfl) ?_
      refine t_q (q_fieldAddr 5 Try.runUnderlying49 rfl Try.sizeOf3 (by decide) rfl rfl) ?_
      refine t_q (q_load1 Try.isAgg3 rfl (hS.cell (by repeat first | exact .here _ _ | assumption | apply Pick.there) rfl)) ?_
      refine t_callv Try.call93 rfl (cnum_calls (v := (cfl x.kind)) (m := 4) (n := x.side) (and_cfl_4 _) ((hS.pick (A := blkA g4 3 [.int .i64 (cfl x.kind)]) (by repeat first | exact .here _ _ | assumption | apply Pick.there)).pick (A := wrA g6 _) (by repeat first | exact .here _ _ | assumption | apply Pick.there)) hx.side (by omega)) rfl ?_
      rintro e w ⟨rfl, hS⟩
      refine ⟨_, rfl, ?_⟩
      replace hS := hS.recast (show _ = wrA g6 (cb4 (cfl x.kind) x) from rfl)
      refine t_nil ?_
      refine c_seq ?_
      refine c_region ?_
      refine t_q (q_mv (.func _ _ _) rfl) ?_
      refine t_q (q_fieldAddr 6 Try.runUnderlying49 rfl Try.sizeOf3 (by decide) rfl rfl) ?_
      refine t_q (q_load1 Try.isAgg3 rfl (hS.cell (by repeat first | exact .here _ _ | assumption | apply Pick.there) rfl)) ?_
      refine t_callv Try.call93 rfl (cnum_calls (v := (cfl x.kind)) (m := 8) (n := x.typ) (and_cfl_8 _) ((hS.pick (A := blkA g4 3 [.int .i64 (cfl x.kind)]) (by repeat first | exact .here _ _ | assumption | apply Pick.there)).pick (A := wrA g6 _) (by repeat first | exact .here _ _ | assumption | apply Pick.there)) hx.typ (by omega)) rfl ?_
      rintro e w ⟨rfl, hS⟩
      refine ⟨_, rfl, ?_⟩
      replace hS := hS.recast (show _ = wrA g6 (cb5 (cfl x.kind) x) from rfl)
      refine t_nil ?_
      refine c_seq ?_
      refine c_region ?_
      refine t_q (q_mv (.func _ _ _) rfl) ?_
      refine t_q (q_fieldAddr 8 Try.runUnderlying49 rfl Try.sizeOf2 (by decide) rfl rfl) ?_
      refine t_q (q_load1 Try.isAgg2 rfl (hS.cell (by repeat first | exact .here _ _ | assumption | apply Pick.there) rfl)) ?_
      refine t_callv Try.call93 rfl (cnum_calls (v := (cfl x.kind)) (m := 32) (n := x.price) (and_cfl_32 _) ((hS.pick (A := blkA g4 3 [.int .i64 (cfl x.kind)]) (by repeat first | exact .here _ _ | assumption | apply Pick.there)).pick (A := wrA g6 _) (by repeat first | exact .here _ _ | assumption | apply Pick.there)) hx.price (by omega)) rfl ?_
      rintro e w ⟨rfl, hS⟩
      refine ⟨_, rfl, ?_⟩
      replace hS := hS.recast (show _ = wrA g6 (cb6 (cfl x.kind) x) from rfl)
      refine t_nil ?_
      refine c_seq ?_
      refine c_region ?_
      refine t_q (q_mv (.func _ _ _) rfl) ?_
      refine t_q (q_fieldAddr 9 Try.runUnderlying49 rfl Try.sizeOf2 (by decide) rfl rfl) ?_
      refine t_q (q_load1 Try.isAgg2 rfl (hS.cell (by repeat first | exact .here _ _ | assumption | apply Pick.there) rfl)) ?_
      refine t_callv Try.call93 rfl (cnum_calls (v := (cfl x.kind)) (m := 64) (n := x.qty) (and_cfl_64 _) ((hS.pick (A := blkA g4 3 [.int .i64 (cfl x.kind)]) (by repeat first | exact .here _ _ | assumption | apply Pick.there)).pick (A := wrA g6 _) (by repeat first | exact .here _ _ | assumption | apply Pick.there)) hx.qty (by omega)) rfl ?_
      rintro e w ⟨rfl, hS⟩
      refine ⟨_, rfl, ?_⟩
      replace hS := hS.recast (show _ = wrA g6 (cb7 (cfl x.kind) x) from rfl)
      refine t_nil ?_
      refine c_seq ?_
      refine c_region ?_
      refine t_q (q_mv (.func _ _ _) rfl) ?_
      refine t_q (q_fieldAddr 11 Try.runUnderlying49 rfl Try.sizeOf3 (by decide) rfl rfl) ?_
      refine t_q (q_load1 Try.isAgg3 rfl (hS.cell (by repeat first | exact .here _ _ | assumption | apply Pick.there) rfl)) ?_
      refine t_callv Try.call93 rfl (cnum_calls (v := (cfl x.kind)) (m := 128) (n := x.replica) (and_cfl_128 _) ((hS.pick (A := blkA g4 3 [.int .i64 (cfl x.kind)]) (by repeat first | exact .here _ _ | assumption | apply Pick.there)).pick (A := wrA g6 _) (by repeat first | exact .here _ _ | assumption | apply Pick.there)) hx.replica (by omega)) rfl ?_
      rintro e w ⟨rfl, hS⟩
      refine ⟨_, rfl, ?_⟩
      replace hS := hS.recast (show _ = wrA g6 (cb8 (cfl x.kind) x) from rfl)
      refine t_nil ?_
      refine c_seq ?_
      refine c_region ?_
      refine t_q (q_mv (.func _ _ _) rfl) ?_
      refine t_q (q_fieldAddr 10 Try.runUnderlying49 rfl Try.sizeOf3 (by decide) rfl rfl) ?_
      refine t_q (q_load1 Try.isAgg3 rfl (hS.cell (by repeat first | exact .here _ _ | assumption | apply Pick.there) rfl)) ?_
      refine t_callv Try.call93 rfl (cnum_calls (v := (cfl x.kind)) (m := 256) (n := x.version) (and_cfl_256 _) ((hS.pick (A := blkA g4 3 [.int .i64 (cfl x.kind)]) (by repeat first | exact .here _ _ | assumption | apply Pick.there)).pick (A := wrA g6 _) (by repeat first | exact .here _ _ | assumption | apply Pick.there)) hx.version (by omega)) rfl ?_
      rintro e w ⟨rfl, hS⟩
      refine ⟨_, rfl, ?_⟩
      replace hS := hS.recast (show _ = wrA g6 (cb9 (cfl x.kind) x) from rfl)
      refine t_nil ?_
      refine c_cut [67, 68, 69, 70, 71, 72, 73] (fun σ w => St W w [wrA g6 (cb10 (cfl x.kind) x), blkA g4 3 [.int .i64 (cfl x.kind)], blkA g1 49 [.int .i64 x.kind, .int .u64 x.client, .int .u64 x.req, .int .i64 x.account, .int .u64 x.id, .int .i64 x.side, .int .i64 x.typ, .int .i64 x.asset, .int .i64 x.price, .int .i64 x.qty, .int .i64 x.version, .int .i64 x.replica, .int .u64 x.at_, .int .i64 x.rules.version, .slice x.rules.ticks.A x.rules.ticks.l.length x.rules.ticks.c, .int .i64 x.rules.lot, .int .i64 x.rules.band, .slice x.rules.fees.A x.rules.fees.l.length x.rules.fees.c, .int .i64 x.rules.round, .int .i64 x.rules.priority, .int .i64 x.rules.self, .int .i64 x.rules.layout]]) rfl ?_ ?_
      ·
        refine c_seq ?_
        refine c_region ?_
        refine t_q (q_load1 Try.isAgg3 rfl (hS.cell (by repeat first | exact .here _ _ | assumption | apply Pick.there) rfl)) ?_
        refine t_q (q_and rfl rfl) ?_
        refine t_q (q_cast (v' := .bool (hasC (cfl x.kind) 512)) (q_neq rfl rfl) (congrArg Value.bool (and_ne (and_cfl_512 _)))) ?_
        refine t_nil ?_
        refine c_cond rfl ?_ ?_
        · intro hc19
          have hc19d := of_decide_eq_true hc19
          have hb512 := hc19
          refine c_region ?_
          refine t_q (q_fieldAddr 12 Try.runUnderlying49 rfl Try.sizeOf26 (by decide) rfl rfl) ?_
          refine t_q (q_load1 Try.isAgg26 rfl (hS.cell (by repeat first | exact .here _ _ | assumption | apply Pick.there) rfl)) ?_
          refine t_build_ints [_] Try.runUnderlying190 Try.sizeOf26 Try.zeroValue26 rfl rfl (by decide) hS (fun g72 w hS => ?_)
          refine t_call Try.call84 (Nat_calls (ns := [x.at_]) hS (by repeat first | exact .here _ _ | assumption | apply Pick.there) (fun _ h => h.rowInts (.here _ _) rfl) (by intro m hm; simp only [List.mem_cons, List.not_mem_nil, or_false] at hm; omega) (by simp) (by first | (simp; done) | omega)) rfl ?_
          rintro e w ⟨rfl, hS⟩
          refine ⟨_, rfl, ?_⟩
          replace hS := hS.swap.recast (congrArg (wrA g6) (show _ = cb9 (cfl x.kind) x ++ enc x.at_.toNat from by simp [encs, cb0]))
          refine t_nil ?_
          have eo : cb10 (cfl x.kind) x = cb9 (cfl x.kind) x ++ (if hasC (cfl x.kind) 512 then enc x.at_.toNat else []) := rfl
          rw [hb512] at eo
          first
            | exact ((((hS.pick (A := blkA g1 49 [.int .i64 x.kind, .int .u64 x.client, .int .u64 x.req, .int .i64 x.account, .int .u64 x.id, .int .i64 x.side, .int .i64 x.typ, .int .i64 x.asset, .int .i64 x.price, .int .i64 x.qty, .int .i64 x.version, .int .i64 x.replica, .int .u64 x.at_, .int .i64 x.rules.version, .slice x.rules.ticks.A x.rules.ticks.l.length x.rules.ticks.c, .int .i64 x.rules.lot, .int .i64 x.rules.band, .slice x.rules.fees.A x.rules.fees.l.length x.rules.fees.c, .int .i64 x.rules.round, .int .i64 x.rules.priority, .int .i64 x.rules.self, .int .i64 x.rules.layout]) (by repeat first | exact .here _ _ | assumption | apply Pick.there)).pick (A := blkA g4 3 [.int .i64 (cfl x.kind)]) (by repeat first | exact .here _ _ | assumption | apply Pick.there)).pick (A := wrA g6 (cb9 (cfl x.kind) x ++ enc x.at_.toNat)) (by repeat first | exact .here _ _ | assumption | apply Pick.there)).front3).recast (congrArg (wrA g6) eo.symm)
            | exact ((((hS.pick (A := blkA g1 49 [.int .i64 x.kind, .int .u64 x.client, .int .u64 x.req, .int .i64 x.account, .int .u64 x.id, .int .i64 x.side, .int .i64 x.typ, .int .i64 x.asset, .int .i64 x.price, .int .i64 x.qty, .int .i64 x.version, .int .i64 x.replica, .int .u64 x.at_, .int .i64 x.rules.version, .slice x.rules.ticks.A x.rules.ticks.l.length x.rules.ticks.c, .int .i64 x.rules.lot, .int .i64 x.rules.band, .slice x.rules.fees.A x.rules.fees.l.length x.rules.fees.c, .int .i64 x.rules.round, .int .i64 x.rules.priority, .int .i64 x.rules.self, .int .i64 x.rules.layout]) (by repeat first | exact .here _ _ | assumption | apply Pick.there)).pick (A := blkA g4 3 [.int .i64 (cfl x.kind)]) (by repeat first | exact .here _ _ | assumption | apply Pick.there)).pick (A := wrA g6 _) (by repeat first | exact .here _ _ | assumption | apply Pick.there)).front3).recast (congrArg (wrA g6) ((List.append_nil _).symm.trans eo.symm))
        · intro hc19
          have hc19d := of_decide_eq_false hc19
          have hb512 := hc19
          refine c_skip ?_
          have eo : cb10 (cfl x.kind) x = cb9 (cfl x.kind) x ++ (if hasC (cfl x.kind) 512 then enc x.at_.toNat else []) := rfl
          rw [hb512] at eo
          first
            | exact ((((hS.pick (A := blkA g1 49 [.int .i64 x.kind, .int .u64 x.client, .int .u64 x.req, .int .i64 x.account, .int .u64 x.id, .int .i64 x.side, .int .i64 x.typ, .int .i64 x.asset, .int .i64 x.price, .int .i64 x.qty, .int .i64 x.version, .int .i64 x.replica, .int .u64 x.at_, .int .i64 x.rules.version, .slice x.rules.ticks.A x.rules.ticks.l.length x.rules.ticks.c, .int .i64 x.rules.lot, .int .i64 x.rules.band, .slice x.rules.fees.A x.rules.fees.l.length x.rules.fees.c, .int .i64 x.rules.round, .int .i64 x.rules.priority, .int .i64 x.rules.self, .int .i64 x.rules.layout]) (by repeat first | exact .here _ _ | assumption | apply Pick.there)).pick (A := blkA g4 3 [.int .i64 (cfl x.kind)]) (by repeat first | exact .here _ _ | assumption | apply Pick.there)).pick (A := wrA g6 (cb9 (cfl x.kind) x ++ enc x.at_.toNat)) (by repeat first | exact .here _ _ | assumption | apply Pick.there)).front3).recast (congrArg (wrA g6) eo.symm)
            | exact ((((hS.pick (A := blkA g1 49 [.int .i64 x.kind, .int .u64 x.client, .int .u64 x.req, .int .i64 x.account, .int .u64 x.id, .int .i64 x.side, .int .i64 x.typ, .int .i64 x.asset, .int .i64 x.price, .int .i64 x.qty, .int .i64 x.version, .int .i64 x.replica, .int .u64 x.at_, .int .i64 x.rules.version, .slice x.rules.ticks.A x.rules.ticks.l.length x.rules.ticks.c, .int .i64 x.rules.lot, .int .i64 x.rules.band, .slice x.rules.fees.A x.rules.fees.l.length x.rules.fees.c, .int .i64 x.rules.round, .int .i64 x.rules.priority, .int .i64 x.rules.self, .int .i64 x.rules.layout]) (by repeat first | exact .here _ _ | assumption | apply Pick.there)).pick (A := blkA g4 3 [.int .i64 (cfl x.kind)]) (by repeat first | exact .here _ _ | assumption | apply Pick.there)).pick (A := wrA g6 _) (by repeat first | exact .here _ _ | assumption | apply Pick.there)).front3).recast (congrArg (wrA g6) ((List.append_nil _).symm.trans eo.symm))
      ·
        rintro σ w hS
        refine c_cut [74, 75, 76, 77, 78, 79] (fun σ w => St W w [wrA g6 (cb11 (cfl x.kind) x), blkA g4 3 [.int .i64 (cfl x.kind)], blkA g1 49 [.int .i64 x.kind, .int .u64 x.client, .int .u64 x.req, .int .i64 x.account, .int .u64 x.id, .int .i64 x.side, .int .i64 x.typ, .int .i64 x.asset, .int .i64 x.price, .int .i64 x.qty, .int .i64 x.version, .int .i64 x.replica, .int .u64 x.at_, .int .i64 x.rules.version, .slice x.rules.ticks.A x.rules.ticks.l.length x.rules.ticks.c, .int .i64 x.rules.lot, .int .i64 x.rules.band, .slice x.rules.fees.A x.rules.fees.l.length x.rules.fees.c, .int .i64 x.rules.round, .int .i64 x.rules.priority, .int .i64 x.rules.self, .int .i64 x.rules.layout]]) rfl ?_ ?_
        ·
          refine c_seq ?_
          refine c_region ?_
          refine t_q (q_load1 Try.isAgg3 rfl (hS.cell (by repeat first | exact .here _ _ | assumption | apply Pick.there) rfl)) ?_
          refine t_q (q_and rfl rfl) ?_
          refine t_q (q_cast (v' := .bool (hasC (cfl x.kind) 1024)) (q_neq rfl rfl) (congrArg Value.bool (and_ne (and_cfl_1024 _)))) ?_
          refine t_nil ?_
          refine c_cond rfl ?_ ?_
          · intro hc22
            have hc22d := of_decide_eq_true hc22
            have hb1024 := hc22
            refine c_region ?_
            refine t_q (q_fieldAddr 13 Try.runUnderlying49 rfl Try.sizeOf47 (by decide) rfl rfl) ?_
            refine t_q (q_cast (v' := .agg x.rules.cells.toArray) (q_load_sub Try.isAgg47 Try.sizeOf47 rfl (hS.blk (by repeat first | exact .here _ _ | assumption | apply Pick.there)) (by show 0 + 13 + 9 ≤ 22; decide)) (by rfl)) ?_
            refine t_call Try.call94 (rput_calls (x := x.rules) hS (by repeat first | exact .here _ _ | assumption | apply Pick.there) hx.rules (by omega)) rfl ?_
            rintro e w ⟨rfl, hS⟩
            refine ⟨_, rfl, ?_⟩
            refine t_nil ?_
            have eo : cb11 (cfl x.kind) x = cb10 (cfl x.kind) x ++ (if hasC (cfl x.kind) 1024 then ruB x.rules else []) := rfl
            rw [hb1024] at eo
            first
              | exact ((((hS.pick (A := blkA g1 49 [.int .i64 x.kind, .int .u64 x.client, .int .u64 x.req, .int .i64 x.account, .int .u64 x.id, .int .i64 x.side, .int .i64 x.typ, .int .i64 x.asset, .int .i64 x.price, .int .i64 x.qty, .int .i64 x.version, .int .i64 x.replica, .int .u64 x.at_, .int .i64 x.rules.version, .slice x.rules.ticks.A x.rules.ticks.l.length x.rules.ticks.c, .int .i64 x.rules.lot, .int .i64 x.rules.band, .slice x.rules.fees.A x.rules.fees.l.length x.rules.fees.c, .int .i64 x.rules.round, .int .i64 x.rules.priority, .int .i64 x.rules.self, .int .i64 x.rules.layout]) (by repeat first | exact .here _ _ | assumption | apply Pick.there)).pick (A := blkA g4 3 [.int .i64 (cfl x.kind)]) (by repeat first | exact .here _ _ | assumption | apply Pick.there)).pick (A := wrA g6 (cb10 (cfl x.kind) x ++ ruB x.rules)) (by repeat first | exact .here _ _ | assumption | apply Pick.there)).front3).recast (congrArg (wrA g6) eo.symm)
              | exact ((((hS.pick (A := blkA g1 49 [.int .i64 x.kind, .int .u64 x.client, .int .u64 x.req, .int .i64 x.account, .int .u64 x.id, .int .i64 x.side, .int .i64 x.typ, .int .i64 x.asset, .int .i64 x.price, .int .i64 x.qty, .int .i64 x.version, .int .i64 x.replica, .int .u64 x.at_, .int .i64 x.rules.version, .slice x.rules.ticks.A x.rules.ticks.l.length x.rules.ticks.c, .int .i64 x.rules.lot, .int .i64 x.rules.band, .slice x.rules.fees.A x.rules.fees.l.length x.rules.fees.c, .int .i64 x.rules.round, .int .i64 x.rules.priority, .int .i64 x.rules.self, .int .i64 x.rules.layout]) (by repeat first | exact .here _ _ | assumption | apply Pick.there)).pick (A := blkA g4 3 [.int .i64 (cfl x.kind)]) (by repeat first | exact .here _ _ | assumption | apply Pick.there)).pick (A := wrA g6 _) (by repeat first | exact .here _ _ | assumption | apply Pick.there)).front3).recast (congrArg (wrA g6) ((List.append_nil _).symm.trans eo.symm))
          · intro hc22
            have hc22d := of_decide_eq_false hc22
            have hb1024 := hc22
            refine c_skip ?_
            have eo : cb11 (cfl x.kind) x = cb10 (cfl x.kind) x ++ (if hasC (cfl x.kind) 1024 then ruB x.rules else []) := rfl
            rw [hb1024] at eo
            first
              | exact ((((hS.pick (A := blkA g1 49 [.int .i64 x.kind, .int .u64 x.client, .int .u64 x.req, .int .i64 x.account, .int .u64 x.id, .int .i64 x.side, .int .i64 x.typ, .int .i64 x.asset, .int .i64 x.price, .int .i64 x.qty, .int .i64 x.version, .int .i64 x.replica, .int .u64 x.at_, .int .i64 x.rules.version, .slice x.rules.ticks.A x.rules.ticks.l.length x.rules.ticks.c, .int .i64 x.rules.lot, .int .i64 x.rules.band, .slice x.rules.fees.A x.rules.fees.l.length x.rules.fees.c, .int .i64 x.rules.round, .int .i64 x.rules.priority, .int .i64 x.rules.self, .int .i64 x.rules.layout]) (by repeat first | exact .here _ _ | assumption | apply Pick.there)).pick (A := blkA g4 3 [.int .i64 (cfl x.kind)]) (by repeat first | exact .here _ _ | assumption | apply Pick.there)).pick (A := wrA g6 (cb10 (cfl x.kind) x ++ ruB x.rules)) (by repeat first | exact .here _ _ | assumption | apply Pick.there)).front3).recast (congrArg (wrA g6) eo.symm)
              | exact ((((hS.pick (A := blkA g1 49 [.int .i64 x.kind, .int .u64 x.client, .int .u64 x.req, .int .i64 x.account, .int .u64 x.id, .int .i64 x.side, .int .i64 x.typ, .int .i64 x.asset, .int .i64 x.price, .int .i64 x.qty, .int .i64 x.version, .int .i64 x.replica, .int .u64 x.at_, .int .i64 x.rules.version, .slice x.rules.ticks.A x.rules.ticks.l.length x.rules.ticks.c, .int .i64 x.rules.lot, .int .i64 x.rules.band, .slice x.rules.fees.A x.rules.fees.l.length x.rules.fees.c, .int .i64 x.rules.round, .int .i64 x.rules.priority, .int .i64 x.rules.self, .int .i64 x.rules.layout]) (by repeat first | exact .here _ _ | assumption | apply Pick.there)).pick (A := blkA g4 3 [.int .i64 (cfl x.kind)]) (by repeat first | exact .here _ _ | assumption | apply Pick.there)).pick (A := wrA g6 _) (by repeat first | exact .here _ _ | assumption | apply Pick.there)).front3).recast (congrArg (wrA g6) ((List.append_nil _).symm.trans eo.symm))
        ·
          rintro σ w hS
          refine c_seq ?_
          refine c_region ?_
          refine t_call Try.call34 (Bytes_calls hS (by repeat first | exact .here _ _ | assumption | apply Pick.there) (by omega)) rfl ?_
          rintro e w ⟨A80, c80, rfl, hc80, hS⟩
          refine ⟨_, rfl, ?_⟩
          refine t_q (q_as (.slice _ _ _) rfl) ?_
          refine t_nil ?_
          refine c_seq ?_
          refine c_seq ?_
          refine c_region ?_
          refine t_q (q_mv (.slice _ _ _) rfl) ?_
          refine t_q (q_len_slice Try.runUnderlying74 rfl) ?_
          refine t_q (q_gtr rfl rfl) ?_
          refine t_nil ?_
          refine c_cond rfl ?_ ?_
          · intro hc26
            have hc26d := of_decide_eq_true hc26
            obtain ⟨e1, e2⟩ := cbE_big hsy (show 512 < (cb11 (cfl x.kind) x).length by omega)
            refine c_seq ?_
            refine c_region ?_
            refine t_q (q_assign) ?_
            refine t_q (q_assign) ?_
            refine t_nil ?_
            refine c_ret ?_
            refine r_two rfl rfl rfl ?_
            rw [e1, e2]
            first
              | exact ⟨none, 0, rfl, hS.nil.nilrow 5 1⟩
              | exact ⟨A80, c80, rfl, (hS.pick (A := rowA 5 1 A80 _ c80 _) (by repeat first | exact .here _ _ | assumption | apply Pick.there)).front1⟩
          · intro hc26
            have hc26d := of_decide_eq_false hc26
            obtain ⟨e1, e2⟩ := cbE_ok hsy (show ¬ 512 < (cb11 (cfl x.kind) x).length by omega)
            refine c_skip ?_
            refine c_seq ?_
            refine c_region ?_
            refine t_q (q_mv (.slice _ _ _) rfl) ?_
            refine t_q (q_as (.slice _ _ _) rfl) ?_
            refine t_q (q_assign) ?_
            refine t_nil ?_
            refine c_ret ?_
            refine r_two rfl rfl rfl ?_
            rw [e1, e2]
            first
              | exact ⟨none, 0, rfl, hS.nil.nilrow 5 1⟩
              | exact ⟨A80, c80, rfl, (hS.pick (A := rowA 5 1 A80 _ c80 _) (by repeat first | exact .here _ _ | assumption | apply Pick.there)).front1⟩
end Go.Proofs.Ytmgobaojioaioaa
