/- Commands as bytes: the document's. -/
import Derived.Test.YtmgobaojioaioaaVg
import Derived.Test.YtmgobaojioaioaaVe
import Derived.Test.YtmgobaojioaioaaUg
import Derived.Test.YtmgobaojioaioaaUc
namespace Go.Proofs.Ytmgobaojioaioaa
open Go Go.RowKit Go.Lib
variable {W : World}
def cT9 (x : CmdV) : List UInt8 := if x.kind = 9 then ruB x.rules else []
def cT13 (x : CmdV) : List UInt8 := if x.kind = 13 then enc x.at_.toNat else []
theorem cb_k1 {x : CmdV} (h : x.kind = 1 ∨ x.kind = 2) : cbB x = (cb0 x) ++ ints [x.account, x.asset, x.qty] ++ cT9 x ++ cT13 x := by
  have hv : cfl x.kind = 81 := by rcases h with h | h <;> rw [h] <;> decide
  have e9 : cT9 x = [] := by unfold cT9; exact if_neg (by omega)
  have e13 : cT13 x = [] := by unfold cT13; exact if_neg (by omega)
  rw [cbB_flat, hv, e9, e13]
  unfold oI oU oR cb0
  rw [show hasC 81 1 = true from by decide, show hasC 81 16 = true from by decide, show hasC 81 2 = false from by decide, show hasC 81 4 = false from by decide, show hasC 81 8 = false from by decide, show hasC 81 32 = false from by decide, show hasC 81 64 = true from by decide, show hasC 81 128 = false from by decide, show hasC 81 256 = false from by decide, show hasC 81 512 = false from by decide, show hasC 81 1024 = false from by decide]
  simp [ints]
theorem cb_k3 {x : CmdV} (h : x.kind = 3) : cbB x = ((cb0 x ++ enc (zig x.account)) ++ enc x.id.toNat) ++ ints [x.side, x.typ, x.price, x.qty] ++ cT9 x ++ cT13 x := by
  have hv : cfl x.kind = 111 := by rw [h]; decide
  have e9 : cT9 x = [] := by unfold cT9; exact if_neg (by omega)
  have e13 : cT13 x = [] := by unfold cT13; exact if_neg (by omega)
  rw [cbB_flat, hv, e9, e13]
  unfold oI oU oR cb0
  rw [show hasC 111 1 = true from by decide, show hasC 111 16 = false from by decide, show hasC 111 2 = true from by decide, show hasC 111 4 = true from by decide, show hasC 111 8 = true from by decide, show hasC 111 32 = true from by decide, show hasC 111 64 = true from by decide, show hasC 111 128 = false from by decide, show hasC 111 256 = false from by decide, show hasC 111 512 = false from by decide, show hasC 111 1024 = false from by decide]
  simp [ints]
theorem cb_k5 {x : CmdV} (h : x.kind = 5) : cbB x = ((cb0 x ++ enc (zig x.account)) ++ enc x.id.toNat) ++ ints [x.price, x.qty] ++ cT9 x ++ cT13 x := by
  have hv : cfl x.kind = 99 := by rw [h]; decide
  have e9 : cT9 x = [] := by unfold cT9; exact if_neg (by omega)
  have e13 : cT13 x = [] := by unfold cT13; exact if_neg (by omega)
  rw [cbB_flat, hv, e9, e13]
  unfold oI oU oR cb0
  rw [show hasC 99 1 = true from by decide, show hasC 99 16 = false from by decide, show hasC 99 2 = true from by decide, show hasC 99 4 = false from by decide, show hasC 99 8 = false from by decide, show hasC 99 32 = true from by decide, show hasC 99 64 = true from by decide, show hasC 99 128 = false from by decide, show hasC 99 256 = false from by decide, show hasC 99 512 = false from by decide, show hasC 99 1024 = false from by decide]
  simp [ints]
theorem cb_k4 {x : CmdV} (h : x.kind = 4) : cbB x = ((cb0 x ++ enc (zig x.account)) ++ enc x.id.toNat) ++ ints [] ++ cT9 x ++ cT13 x := by
  have hv : cfl x.kind = 3 := by rw [h]; decide
  have e9 : cT9 x = [] := by unfold cT9; exact if_neg (by omega)
  have e13 : cT13 x = [] := by unfold cT13; exact if_neg (by omega)
  rw [cbB_flat, hv, e9, e13]
  unfold oI oU oR cb0
  rw [show hasC 3 1 = true from by decide, show hasC 3 16 = false from by decide, show hasC 3 2 = true from by decide, show hasC 3 4 = false from by decide, show hasC 3 8 = false from by decide, show hasC 3 32 = false from by decide, show hasC 3 64 = false from by decide, show hasC 3 128 = false from by decide, show hasC 3 256 = false from by decide, show hasC 3 512 = false from by decide, show hasC 3 1024 = false from by decide]
  simp [ints]
theorem cb_k8 {x : CmdV} (h : x.kind = 8) : cbB x = (cb0 x) ++ ints [x.account] ++ cT9 x ++ cT13 x := by
  have hv : cfl x.kind = 1 := by rw [h]; decide
  have e9 : cT9 x = [] := by unfold cT9; exact if_neg (by omega)
  have e13 : cT13 x = [] := by unfold cT13; exact if_neg (by omega)
  rw [cbB_flat, hv, e9, e13]
  unfold oI oU oR cb0
  rw [show hasC 1 1 = true from by decide, show hasC 1 16 = false from by decide, show hasC 1 2 = false from by decide, show hasC 1 4 = false from by decide, show hasC 1 8 = false from by decide, show hasC 1 32 = false from by decide, show hasC 1 64 = false from by decide, show hasC 1 128 = false from by decide, show hasC 1 256 = false from by decide, show hasC 1 512 = false from by decide, show hasC 1 1024 = false from by decide]
  simp [ints]
theorem cb_k9 {x : CmdV} (h : x.kind = 9) : cbB x = (cb0 x) ++ ints [] ++ cT9 x ++ cT13 x := by
  have hv : cfl x.kind = 1024 := by rw [h]; decide
  have e9 : cT9 x = ruB x.rules := by unfold cT9; exact if_pos (by omega)
  have e13 : cT13 x = [] := by unfold cT13; exact if_neg (by omega)
  rw [cbB_flat, hv, e9, e13]
  unfold oI oU oR cb0
  rw [show hasC 1024 1 = false from by decide, show hasC 1024 16 = false from by decide, show hasC 1024 2 = false from by decide, show hasC 1024 4 = false from by decide, show hasC 1024 8 = false from by decide, show hasC 1024 32 = false from by decide, show hasC 1024 64 = false from by decide, show hasC 1024 128 = false from by decide, show hasC 1024 256 = false from by decide, show hasC 1024 512 = false from by decide, show hasC 1024 1024 = true from by decide]
  simp [ints]
theorem cb_k10 {x : CmdV} (h : x.kind = 10) : cbB x = (cb0 x) ++ ints [x.replica, x.version] ++ cT9 x ++ cT13 x := by
  have hv : cfl x.kind = 384 := by rw [h]; decide
  have e9 : cT9 x = [] := by unfold cT9; exact if_neg (by omega)
  have e13 : cT13 x = [] := by unfold cT13; exact if_neg (by omega)
  rw [cbB_flat, hv, e9, e13]
  unfold oI oU oR cb0
  rw [show hasC 384 1 = false from by decide, show hasC 384 16 = false from by decide, show hasC 384 2 = false from by decide, show hasC 384 4 = false from by decide, show hasC 384 8 = false from by decide, show hasC 384 32 = false from by decide, show hasC 384 64 = false from by decide, show hasC 384 128 = true from by decide, show hasC 384 256 = true from by decide, show hasC 384 512 = false from by decide, show hasC 384 1024 = false from by decide]
  simp [ints]
theorem cb_k11 {x : CmdV} (h : x.kind = 11) : cbB x = (cb0 x) ++ ints [x.version] ++ cT9 x ++ cT13 x := by
  have hv : cfl x.kind = 256 := by rw [h]; decide
  have e9 : cT9 x = [] := by unfold cT9; exact if_neg (by omega)
  have e13 : cT13 x = [] := by unfold cT13; exact if_neg (by omega)
  rw [cbB_flat, hv, e9, e13]
  unfold oI oU oR cb0
  rw [show hasC 256 1 = false from by decide, show hasC 256 16 = false from by decide, show hasC 256 2 = false from by decide, show hasC 256 4 = false from by decide, show hasC 256 8 = false from by decide, show hasC 256 32 = false from by decide, show hasC 256 64 = false from by decide, show hasC 256 128 = false from by decide, show hasC 256 256 = true from by decide, show hasC 256 512 = false from by decide, show hasC 256 1024 = false from by decide]
  simp [ints]
theorem cb_k13 {x : CmdV} (h : x.kind = 13) : cbB x = (cb0 x) ++ ints [x.version] ++ cT9 x ++ cT13 x := by
  have hv : cfl x.kind = 768 := by rw [h]; decide
  have e9 : cT9 x = [] := by unfold cT9; exact if_neg (by omega)
  have e13 : cT13 x = enc x.at_.toNat := by unfold cT13; exact if_pos (by omega)
  rw [cbB_flat, hv, e9, e13]
  unfold oI oU oR cb0
  rw [show hasC 768 1 = false from by decide, show hasC 768 16 = false from by decide, show hasC 768 2 = false from by decide, show hasC 768 4 = false from by decide, show hasC 768 8 = false from by decide, show hasC 768 32 = false from by decide, show hasC 768 64 = false from by decide, show hasC 768 128 = false from by decide, show hasC 768 256 = true from by decide, show hasC 768 512 = true from by decide, show hasC 768 1024 = false from by decide]
  simp [ints]
theorem cb_k0 {x : CmdV} (h : (x.kind = 6 ∨ x.kind = 7 ∨ x.kind = 12 ∨ x.kind = 14 ∨ x.kind = 15 ∨ x.kind < 1 ∨ 15 < x.kind)) : cbB x = (cb0 x) ++ ints [] ++ cT9 x ++ cT13 x := by
  have hv : cfl x.kind = 0 := cfl_none h
  have e9 : cT9 x = [] := by unfold cT9; exact if_neg (by omega)
  have e13 : cT13 x = [] := by unfold cT13; exact if_neg (by omega)
  rw [cbB_flat, hv, e9, e13]
  unfold oI oU oR cb0
  rw [show hasC 0 1 = false from by decide, show hasC 0 16 = false from by decide, show hasC 0 2 = false from by decide, show hasC 0 4 = false from by decide, show hasC 0 8 = false from by decide, show hasC 0 32 = false from by decide, show hasC 0 64 = false from by decide, show hasC 0 128 = false from by decide, show hasC 0 256 = false from by decide, show hasC 0 512 = false from by decide, show hasC 0 1024 = false from by decide]
  simp [ints]
attribute [local irreducible] blkA rowA
set_option maxHeartbeats 8000000 in
set_option maxRecDepth 100000 in
theorem qcbytes_calls {x : CmdV} (hx : x.Gd W) : Calls Try.prog 44 #[.agg x.cells.toArray] W fun e w' => ∃ A' c', e = .returned (.tuple #[.slice A' (cbL x).length c', .int .i64 (cbE x)]) ∧ St W w' [rowA 5 1 A' (cbL x).length c' ((cbL x).map bv)] := by
  have hS := St.init W
  have hc0 := hx.client
  have hc1 := hx.req
  have hc2 := hx.account
  have hc3 := hx.id
  have hc4 := hx.side
  have hc5 := hx.typ
  have hc6 := hx.asset
  have hc7 := hx.price
  have hc8 := hx.qty
  have hc9 := hx.version
  have hc10 := hx.replica
  have hc11 := hx.at_
  refine calls_of_wpE (args := [_]) Try.func44 rfl rfl rfl ?_
  refine c_seq ?_
  refine c_region ?_
  refine t_box (v := (.agg _)) rfl rfl hS (fun g1 w hS => ?_)
  replace hS := hS.recast (show _ = blkA g1 49 [.int .i64 x.kind, .int .u64 x.client, .int .u64 x.req, .int .i64 x.account, .int .u64 x.id, .int .i64 x.side, .int .i64 x.typ, .int .i64 x.asset, .int .i64 x.price, .int .i64 x.qty, .int .i64 x.version, .int .i64 x.replica, .int .u64 x.at_, .int .i64 x.rules.version, .slice x.rules.ticks.A x.rules.ticks.l.length x.rules.ticks.c, .int .i64 x.rules.lot, .int .i64 x.rules.band, .slice x.rules.fees.A x.rules.fees.l.length x.rules.fees.c, .int .i64 x.rules.round, .int .i64 x.rules.priority, .int .i64 x.rules.self, .int .i64 x.rules.layout] from rfl)
  refine t_q (q_assign) ?_
  refine t_q (q_assign) ?_
  refine t_nil ?_
  refine c_seq ?_
  refine c_seq ?_
  refine c_region ?_
  refine t_q (q_cast (v' := .agg x.cells.toArray) (q_load_blk Try.isAgg49 Try.sizeOf49 rfl (hS.blk (by repeat first | exact .here _ _ | assumption | apply Pick.there)) rfl) (by rfl)) ?_
  refine t_call Try.call49 (qcsound_calls (x := x) (hx.st hS)) rfl ?_
  rintro e w ⟨rfl, hT⟩
  refine ⟨_, rfl, ?_⟩
  replace hS := hS.after hT
  refine t_q (q_not rfl) ?_
  refine t_nil ?_
  refine c_cond rfl ?_ ?_
  · intro hc2
    obtain ⟨e1, e2⟩ := cbE_no (x := x) (bnt (by assumption : (!sndC x) = true))
    refine c_seq ?_
    refine c_region ?_
    refine t_q (q_assign) ?_
    refine t_q (q_assign) ?_
    refine t_nil ?_
    refine c_ret ?_
    refine r_two rfl rfl rfl ?_
    rw [e1, e2]
    first
      | exact ⟨none, 0, rfl, hS.nil.nilrow 5 1⟩
      | (rw [hbq, ← hm]; exact ⟨Aq, cq, rfl, ((hS.pick (A := rowA 5 1 Aq _ cq _) (by repeat first | exact .here _ _ | assumption | apply Pick.there))).front1⟩)
  · intro hc2
    have hsy : sndC x = true := bnf (by assumption : (!sndC x) = false)
    obtain ⟨hk1, hk2⟩ := snd_kind hsy
    refine c_skip ?_
    refine c_seq ?_
    refine c_region ?_
    refine t_q (q_fieldAddr 0 Try.runUnderlying49 rfl Try.sizeOf3 (by decide) rfl rfl) ?_
    refine t_q (q_load1 Try.isAgg3 rfl (hS.cell (by repeat first | exact .here _ _ | assumption | apply Pick.there) rfl)) ?_
    first | refine t_q (q_conv_u64 Try.runUnderlying3 Try.runUnderlying26 rfl (by omega)) ?_ | refine t_q (q_convm_u64 Try.runUnderlying3 Try.runUnderlying26 rfl) ?_
    refine t_call Try.call86 (qwNat (n := x.kind) hS (by omega) (by omega)) rfl ?_
    rintro e w ⟨A13, n13, c13, rfl, hn13, hS⟩
    refine ⟨_, rfl, ?_⟩
    have ht13 := enc_ten (n := (x.kind).toNat) (by omega)
    refine t_q (q_as (.slice _ _ _) rfl) ?_
    refine t_nil ?_
    refine c_seq ?_
    refine c_region ?_
    refine t_q (q_mv (.slice _ _ _) rfl) ?_
    refine t_q (q_fieldAddr 1 Try.runUnderlying49 rfl Try.sizeOf26 (by decide) rfl rfl) ?_
    refine t_q (q_load1 Try.isAgg26 rfl (hS.cell (by repeat first | exact .here _ _ | assumption | apply Pick.there) rfl)) ?_
    refine t_call Try.call86 (qwNat (n := x.client) hS (by omega) (by omega)) rfl ?_
    rintro e w ⟨A17, n17, c17, rfl, hn17, hS⟩
    refine ⟨_, rfl, ?_⟩
    have ht17 := enc_ten (n := (x.client).toNat) (by omega)
    refine t_append_own (size := 1) (bytes := 1) Try.underlying74 (info_of Try.type5) rfl rfl rfl rfl (by decide) hS (by repeat first | exact .here _ _ | assumption | apply Pick.there) (by repeat first | exact .here _ _ | assumption | apply Pick.there) rfl rfl (by first | exact allOne_bv _ | exact allOne_ints _ _ | rfl) (by unfold maxLen; omega) (by omega) (fun A18 c18 w hS => ?_)
    replace hS := (hS.pick (A := rowA 5 1 A18 _ c18 _) (by repeat first | exact .here _ _ | assumption | apply Pick.there)).recast (show _ = rowA 5 1 A18 (n13 + n17) c18 ((enc x.kind.toNat ++ enc x.client.toNat).map bv) from by simp only [List.map_append])
    refine t_q (q_as (.slice _ _ _) rfl) ?_
    refine t_nil ?_
    refine c_seq ?_
    refine c_region ?_
    refine t_q (q_mv (.slice _ _ _) rfl) ?_
    refine t_q (q_fieldAddr 2 Try.runUnderlying49 rfl Try.sizeOf26 (by decide) rfl rfl) ?_
    refine t_q (q_load1 Try.isAgg26 rfl (hS.cell (by repeat first | exact .here _ _ | assumption | apply Pick.there) rfl)) ?_
    refine t_call Try.call86 (qwNat (n := x.req) hS (by omega) (by omega)) rfl ?_
    rintro e w ⟨A22, n22, c22, rfl, hn22, hS⟩
    refine ⟨_, rfl, ?_⟩
    have ht22 := enc_ten (n := (x.req).toNat) (by omega)
    refine t_append_own (size := 1) (bytes := 1) Try.underlying74 (info_of Try.type5) rfl rfl rfl rfl (by decide) hS (by repeat first | exact .here _ _ | assumption | apply Pick.there) (by repeat first | exact .here _ _ | assumption | apply Pick.there) rfl rfl (by first | exact allOne_bv _ | exact allOne_ints _ _ | rfl) (by unfold maxLen; omega) (by omega) (fun A23 c23 w hS => ?_)
    replace hS := (hS.pick (A := rowA 5 1 A23 _ c23 _) (by repeat first | exact .here _ _ | assumption | apply Pick.there)).recast (show _ = rowA 5 1 A23 ((n13 + n17) + n22) c23 (((enc x.kind.toNat ++ enc x.client.toNat) ++ enc x.req.toNat).map bv) from by simp only [List.map_append])
    replace hS := (hS.pick (A := rowA 5 1 A23 _ c23 _) (by repeat first | exact .here _ _ | assumption | apply Pick.there)).recast (show _ = rowA 5 1 A23 (n13 + n17 + n22) c23 ((cb0 x).map bv) from by unfold cb0; rw [List.append_assoc])
    refine t_q (q_as (.slice _ _ _) rfl) ?_
    refine t_nil ?_
    refine c_seq ?_
    refine c_region ?_
    refine t_build_ints [] Try.runUnderlying158 Try.sizeOf2 Try.zeroValue2 rfl rfl (by decide) hS (fun g24 w hS => ?_)
    replace hS := hS.recast (show _ = rowA 2 1 (some ⟨g24, 0, none⟩) (([] : List Int)).length (([] : List Int)).length ((([] : List Int)).map (Value.int .i64)) from rfl)
    refine t_q (q_as (.slice _ _ _) rfl) ?_
    refine t_nil ?_
    refine c_cut [4, 5, 25, 26, 27, 28, 29, 30, 31, 32, 33, 34, 35, 36, 37, 38, 39, 40, 41, 42, 43, 44, 45, 46, 47, 48, 49, 50, 51, 52, 53, 54, 55, 56, 57, 58, 59, 60, 61, 62, 63, 64, 65, 66, 67, 68, 69, 70, 71, 72, 73, 74, 75, 76, 77, 78, 79, 80, 81, 82, 83, 84, 85, 86, 87, 88] (fun σ w => ∃ (ns : List Int) (bs : List UInt8) (A' : Option Addr) (m c' gn : Nat), σ 4 = .slice A' m c' ∧ σ 5 = .slice (some ⟨gn, 0, none⟩) ns.length ns.length ∧ m = bs.length ∧ (∀ n ∈ ns, -9223372036854775808 ≤ n ∧ n ≤ 9223372036854775807) ∧ ns.length ≤ 4 ∧ bs.length ≤ 50 ∧ cbB x = bs ++ ints ns ++ cT9 x ++ cT13 x ∧ St W w [rowA 5 1 A' m c' ((bs).map bv), rowA 2 1 (some ⟨gn, 0, none⟩) (ns).length (ns).length ((ns).map (Value.int .i64)), blkA g1 49 [.int .i64 x.kind, .int .u64 x.client, .int .u64 x.req, .int .i64 x.account, .int .u64 x.id, .int .i64 x.side, .int .i64 x.typ, .int .i64 x.asset, .int .i64 x.price, .int .i64 x.qty, .int .i64 x.version, .int .i64 x.replica, .int .u64 x.at_, .int .i64 x.rules.version, .slice x.rules.ticks.A x.rules.ticks.l.length x.rules.ticks.c, .int .i64 x.rules.lot, .int .i64 x.rules.band, .slice x.rules.fees.A x.rules.fees.l.length x.rules.fees.c, .int .i64 x.rules.round, .int .i64 x.rules.priority, .int .i64 x.rules.self, .int .i64 x.rules.layout]]) rfl ?_ ?_
    ·
      refine c_seq ?_
      refine c_region ?_
      refine t_q (q_fieldAddr 0 Try.runUnderlying49 rfl Try.sizeOf3 (by decide) rfl rfl) ?_
      refine t_q (q_load1 Try.isAgg3 rfl (hS.cell (by repeat first | exact .here _ _ | assumption | apply Pick.there) rfl)) ?_
      refine t_nil ?_
      refine c_block ?_
      refine c_cut [27, 28, 29] (fun σ w => σ 27 = .bool (decide (x.kind = 1 ∨ x.kind = 2)) ∧ St W w [rowA 5 1 A23 (n13 + n17 + n22) c23 ((cb0 x).map bv), rowA 2 1 (some ⟨g24, 0, none⟩) (([] : List Int)).length (([] : List Int)).length ((([] : List Int)).map (Value.int .i64)), blkA g1 49 [.int .i64 x.kind, .int .u64 x.client, .int .u64 x.req, .int .i64 x.account, .int .u64 x.id, .int .i64 x.side, .int .i64 x.typ, .int .i64 x.asset, .int .i64 x.price, .int .i64 x.qty, .int .i64 x.version, .int .i64 x.replica, .int .u64 x.at_, .int .i64 x.rules.version, .slice x.rules.ticks.A x.rules.ticks.l.length x.rules.ticks.c, .int .i64 x.rules.lot, .int .i64 x.rules.band, .slice x.rules.fees.A x.rules.fees.l.length x.rules.fees.c, .int .i64 x.rules.round, .int .i64 x.rules.priority, .int .i64 x.rules.self, .int .i64 x.rules.layout]]) rfl ?_ ?_
      ·
        refine c_seq ?_
        refine c_region ?_
        refine t_q (q_eql rfl rfl) ?_
        refine t_q (q_as (.bool _) rfl) ?_
        refine t_nil ?_
        refine c_cond rfl ?_ ?_
        · intro hc7
          have hc7d := of_decide_eq_true hc7
          have hka : x.kind = 1 ∨ x.kind = 2 := by first | exact of_decide_eq_true hc7 | exact .inl (of_decide_eq_true hc7) | exact .inr (of_decide_eq_true hc7) | exact .inr (.inl (of_decide_eq_true hc7)) | exact .inr (.inr (of_decide_eq_true hc7))
          refine c_skip ?_
          exact ⟨congrArg Value.bool (by
            first
              | (rw [decide_eq_decide]; omega)
              | (symm; apply decide_eq_true; omega)), (((hS.pick (A := blkA g1 49 [.int .i64 x.kind, .int .u64 x.client, .int .u64 x.req, .int .i64 x.account, .int .u64 x.id, .int .i64 x.side, .int .i64 x.typ, .int .i64 x.asset, .int .i64 x.price, .int .i64 x.qty, .int .i64 x.version, .int .i64 x.replica, .int .u64 x.at_, .int .i64 x.rules.version, .slice x.rules.ticks.A x.rules.ticks.l.length x.rules.ticks.c, .int .i64 x.rules.lot, .int .i64 x.rules.band, .slice x.rules.fees.A x.rules.fees.l.length x.rules.fees.c, .int .i64 x.rules.round, .int .i64 x.rules.priority, .int .i64 x.rules.self, .int .i64 x.rules.layout]) (by repeat first | exact .here _ _ | assumption | apply Pick.there)).pick (A := rowA 2 1 (some ⟨g24, 0, none⟩) _ _ _) (by repeat first | exact .here _ _ | assumption | apply Pick.there)).pick (A := rowA 5 1 A23 _ c23 _) (by repeat first | exact .here _ _ | assumption | apply Pick.there)).front3⟩
        · intro hc7
          have hc7d := of_decide_eq_false hc7
          first
            | have hka : ¬ (x.kind = 1 ∨ x.kind = 2) := of_decide_eq_false hc7
            | skip
          refine c_region ?_
          refine t_q (q_eql rfl rfl) ?_
          refine t_q (q_as (.bool _) rfl) ?_
          refine t_nil ?_
          exact ⟨congrArg Value.bool (by
            first
              | (rw [decide_eq_decide]; omega)
              | (symm; apply decide_eq_true; omega)), (((hS.pick (A := blkA g1 49 [.int .i64 x.kind, .int .u64 x.client, .int .u64 x.req, .int .i64 x.account, .int .u64 x.id, .int .i64 x.side, .int .i64 x.typ, .int .i64 x.asset, .int .i64 x.price, .int .i64 x.qty, .int .i64 x.version, .int .i64 x.replica, .int .u64 x.at_, .int .i64 x.rules.version, .slice x.rules.ticks.A x.rules.ticks.l.length x.rules.ticks.c, .int .i64 x.rules.lot, .int .i64 x.rules.band, .slice x.rules.fees.A x.rules.fees.l.length x.rules.fees.c, .int .i64 x.rules.round, .int .i64 x.rules.priority, .int .i64 x.rules.self, .int .i64 x.rules.layout]) (by repeat first | exact .here _ _ | assumption | apply Pick.there)).pick (A := rowA 2 1 (some ⟨g24, 0, none⟩) _ _ _) (by repeat first | exact .here _ _ | assumption | apply Pick.there)).pick (A := rowA 5 1 A23 _ c23 _) (by repeat first | exact .here _ _ | assumption | apply Pick.there)).front3⟩
      ·
        rintro σ w ⟨h27, hS⟩
        refine c_know 27 h27 ?_
        refine c_cond rfl ?_ ?_
        · intro hc10
          have hka : x.kind = 1 ∨ x.kind = 2 := by first | exact of_decide_eq_true hc10 | exact .inl (of_decide_eq_true hc10) | exact .inr (of_decide_eq_true hc10) | exact .inr (.inl (of_decide_eq_true hc10)) | exact .inr (.inr (of_decide_eq_true hc10))
          refine c_region ?_
          refine t_q (q_fieldAddr 3 Try.runUnderlying49 rfl Try.sizeOf3 (by decide) rfl rfl) ?_
          refine t_q (q_load1 Try.isAgg3 rfl (hS.cell (by repeat first | exact .here _ _ | assumption | apply Pick.there) rfl)) ?_
          refine t_q (q_fieldAddr 7 Try.runUnderlying49 rfl Try.sizeOf3 (by decide) rfl rfl) ?_
          refine t_q (q_load1 Try.isAgg3 rfl (hS.cell (by repeat first | exact .here _ _ | assumption | apply Pick.there) rfl)) ?_
          refine t_q (q_fieldAddr 9 Try.runUnderlying49 rfl Try.sizeOf2 (by decide) rfl rfl) ?_
          refine t_q (q_load1 Try.isAgg2 rfl (hS.cell (by repeat first | exact .here _ _ | assumption | apply Pick.there) rfl)) ?_
          refine t_build_ints [_, _, _] Try.runUnderlying158 Try.sizeOf2 Try.zeroValue2 rfl rfl (by decide) hS (fun g36 w hS => ?_)
          refine t_q (q_as (.slice _ _ _) rfl) ?_
          refine t_nil ?_
          exact ⟨[x.account, x.asset, x.qty], cb0 x, A23, _, c23, g36, rfl, rfl, (by simp only [List.length_append, cb0] <;> omega), (by intro n hn; simp only [List.mem_cons, List.not_mem_nil, or_false] at hn <;> omega), (by simp), (by simp only [List.length_append, cb0] <;> omega), cb_k1 (by omega), (((hS.pick (A := blkA g1 49 [.int .i64 x.kind, .int .u64 x.client, .int .u64 x.req, .int .i64 x.account, .int .u64 x.id, .int .i64 x.side, .int .i64 x.typ, .int .i64 x.asset, .int .i64 x.price, .int .i64 x.qty, .int .i64 x.version, .int .i64 x.replica, .int .u64 x.at_, .int .i64 x.rules.version, .slice x.rules.ticks.A x.rules.ticks.l.length x.rules.ticks.c, .int .i64 x.rules.lot, .int .i64 x.rules.band, .slice x.rules.fees.A x.rules.fees.l.length x.rules.fees.c, .int .i64 x.rules.round, .int .i64 x.rules.priority, .int .i64 x.rules.self, .int .i64 x.rules.layout]) (by repeat first | exact .here _ _ | assumption | apply Pick.there)).pick (A := rowA 2 1 (some ⟨g36, 0, none⟩) _ _ _) (by repeat first | exact .here _ _ | assumption | apply Pick.there)).pick (A := rowA 5 1 A23 _ c23 _) (by repeat first | exact .here _ _ | assumption | apply Pick.there)).front3⟩
        · intro hc10
          first
            | have hka : ¬ (x.kind = 1 ∨ x.kind = 2) := of_decide_eq_false hc10
            | skip
          refine c_cut [37, 38, 39, 40] (fun σ w => σ 37 = .bool (decide (x.kind = 3 ∨ x.kind = 4 ∨ x.kind = 5)) ∧ St W w [rowA 5 1 A23 (n13 + n17 + n22) c23 ((cb0 x).map bv), rowA 2 1 (some ⟨g24, 0, none⟩) (([] : List Int)).length (([] : List Int)).length ((([] : List Int)).map (Value.int .i64)), blkA g1 49 [.int .i64 x.kind, .int .u64 x.client, .int .u64 x.req, .int .i64 x.account, .int .u64 x.id, .int .i64 x.side, .int .i64 x.typ, .int .i64 x.asset, .int .i64 x.price, .int .i64 x.qty, .int .i64 x.version, .int .i64 x.replica, .int .u64 x.at_, .int .i64 x.rules.version, .slice x.rules.ticks.A x.rules.ticks.l.length x.rules.ticks.c, .int .i64 x.rules.lot, .int .i64 x.rules.band, .slice x.rules.fees.A x.rules.fees.l.length x.rules.fees.c, .int .i64 x.rules.round, .int .i64 x.rules.priority, .int .i64 x.rules.self, .int .i64 x.rules.layout]]) rfl ?_ ?_
          ·
            refine c_seq ?_
            refine c_region ?_
            refine t_q (q_eql rfl rfl) ?_
            refine t_q (q_as (.bool _) rfl) ?_
            refine t_nil ?_
            refine c_cond rfl ?_ ?_
            · intro hc12
              have hc12d := of_decide_eq_true hc12
              have hkb : x.kind = 3 ∨ x.kind = 4 ∨ x.kind = 5 := by first | exact of_decide_eq_true hc12 | exact .inl (of_decide_eq_true hc12) | exact .inr (of_decide_eq_true hc12) | exact .inr (.inl (of_decide_eq_true hc12)) | exact .inr (.inr (of_decide_eq_true hc12))
              refine c_skip ?_
              exact ⟨congrArg Value.bool (by
                first
                  | (rw [decide_eq_decide]; omega)
                  | (symm; apply decide_eq_true; omega)), (((hS.pick (A := blkA g1 49 [.int .i64 x.kind, .int .u64 x.client, .int .u64 x.req, .int .i64 x.account, .int .u64 x.id, .int .i64 x.side, .int .i64 x.typ, .int .i64 x.asset, .int .i64 x.price, .int .i64 x.qty, .int .i64 x.version, .int .i64 x.replica, .int .u64 x.at_, .int .i64 x.rules.version, .slice x.rules.ticks.A x.rules.ticks.l.length x.rules.ticks.c, .int .i64 x.rules.lot, .int .i64 x.rules.band, .slice x.rules.fees.A x.rules.fees.l.length x.rules.fees.c, .int .i64 x.rules.round, .int .i64 x.rules.priority, .int .i64 x.rules.self, .int .i64 x.rules.layout]) (by repeat first | exact .here _ _ | assumption | apply Pick.there)).pick (A := rowA 2 1 (some ⟨g24, 0, none⟩) _ _ _) (by repeat first | exact .here _ _ | assumption | apply Pick.there)).pick (A := rowA 5 1 A23 _ c23 _) (by repeat first | exact .here _ _ | assumption | apply Pick.there)).front3⟩
            · intro hc12
              have hc12d := of_decide_eq_false hc12
              first
                | have hkb : ¬ (x.kind = 3 ∨ x.kind = 4 ∨ x.kind = 5) := of_decide_eq_false hc12
                | skip
              refine c_seq ?_
              refine c_region ?_
              refine t_q (q_eql rfl rfl) ?_
              refine t_q (q_as (.bool _) rfl) ?_
              refine t_nil ?_
              refine c_cond rfl ?_ ?_
              · intro hc14
                have hc14d := of_decide_eq_true hc14
                have hkb : x.kind = 3 ∨ x.kind = 4 ∨ x.kind = 5 := by first | exact of_decide_eq_true hc14 | exact .inl (of_decide_eq_true hc14) | exact .inr (of_decide_eq_true hc14) | exact .inr (.inl (of_decide_eq_true hc14)) | exact .inr (.inr (of_decide_eq_true hc14))
                refine c_skip ?_
                exact ⟨congrArg Value.bool (by
                  first
                    | (rw [decide_eq_decide]; omega)
                    | (symm; apply decide_eq_true; omega)), (((hS.pick (A := blkA g1 49 [.int .i64 x.kind, .int .u64 x.client, .int .u64 x.req, .int .i64 x.account, .int .u64 x.id, .int .i64 x.side, .int .i64 x.typ, .int .i64 x.asset, .int .i64 x.price, .int .i64 x.qty, .int .i64 x.version, .int .i64 x.replica, .int .u64 x.at_, .int .i64 x.rules.version, .slice x.rules.ticks.A x.rules.ticks.l.length x.rules.ticks.c, .int .i64 x.rules.lot, .int .i64 x.rules.band, .slice x.rules.fees.A x.rules.fees.l.length x.rules.fees.c, .int .i64 x.rules.round, .int .i64 x.rules.priority, .int .i64 x.rules.self, .int .i64 x.rules.layout]) (by repeat first | exact .here _ _ | assumption | apply Pick.there)).pick (A := rowA 2 1 (some ⟨g24, 0, none⟩) _ _ _) (by repeat first | exact .here _ _ | assumption | apply Pick.there)).pick (A := rowA 5 1 A23 _ c23 _) (by repeat first | exact .here _ _ | assumption | apply Pick.there)).front3⟩
              · intro hc14
                have hc14d := of_decide_eq_false hc14
                first
                  | have hkb : ¬ (x.kind = 3 ∨ x.kind = 4 ∨ x.kind = 5) := of_decide_eq_false hc14
                  | skip
                refine c_region ?_
                refine t_q (q_eql rfl rfl) ?_
                refine t_q (q_as (.bool _) rfl) ?_
                refine t_nil ?_
                exact ⟨congrArg Value.bool (by
                  first
                    | (rw [decide_eq_decide]; omega)
                    | (symm; apply decide_eq_true; omega)), (((hS.pick (A := blkA g1 49 [.int .i64 x.kind, .int .u64 x.client, .int .u64 x.req, .int .i64 x.account, .int .u64 x.id, .int .i64 x.side, .int .i64 x.typ, .int .i64 x.asset, .int .i64 x.price, .int .i64 x.qty, .int .i64 x.version, .int .i64 x.replica, .int .u64 x.at_, .int .i64 x.rules.version, .slice x.rules.ticks.A x.rules.ticks.l.length x.rules.ticks.c, .int .i64 x.rules.lot, .int .i64 x.rules.band, .slice x.rules.fees.A x.rules.fees.l.length x.rules.fees.c, .int .i64 x.rules.round, .int .i64 x.rules.priority, .int .i64 x.rules.self, .int .i64 x.rules.layout]) (by repeat first | exact .here _ _ | assumption | apply Pick.there)).pick (A := rowA 2 1 (some ⟨g24, 0, none⟩) _ _ _) (by repeat first | exact .here _ _ | assumption | apply Pick.there)).pick (A := rowA 5 1 A23 _ c23 _) (by repeat first | exact .here _ _ | assumption | apply Pick.there)).front3⟩
          ·
            rintro σ w ⟨h37, hS⟩
            refine c_know 37 h37 ?_
            refine c_cond rfl ?_ ?_
            · intro hc17
              have hkb : x.kind = 3 ∨ x.kind = 4 ∨ x.kind = 5 := by first | exact of_decide_eq_true hc17 | exact .inl (of_decide_eq_true hc17) | exact .inr (of_decide_eq_true hc17) | exact .inr (.inl (of_decide_eq_true hc17)) | exact .inr (.inr (of_decide_eq_true hc17))
              refine c_seq ?_
              refine c_region ?_
              refine t_q (q_mv (.slice _ _ _) rfl) ?_
              refine t_q (q_fieldAddr 3 Try.runUnderlying49 rfl Try.sizeOf3 (by decide) rfl rfl) ?_
              refine t_q (q_load1 Try.isAgg3 rfl (hS.cell (by repeat first | exact .here _ _ | assumption | apply Pick.there) rfl)) ?_
              refine t_call Try.call85 (qwInt (n := x.account) hS (by omega) (by omega)) rfl ?_
              rintro e w ⟨A44, n44, c44, rfl, hn44, hS⟩
              refine ⟨_, rfl, ?_⟩
              have ht44 := zlen (n := x.account) ⟨by omega, by omega⟩
              refine t_append_own (size := 1) (bytes := 1) Try.underlying74 (info_of Try.type5) rfl rfl rfl rfl (by decide) hS (by repeat first | exact .here _ _ | assumption | apply Pick.there) (by repeat first | exact .here _ _ | assumption | apply Pick.there) rfl rfl (by first | exact allOne_bv _ | exact allOne_ints _ _ | rfl) (by unfold maxLen; omega) (by omega) (fun A45 c45 w hS => ?_)
              replace hS := (hS.pick (A := rowA 5 1 A45 _ c45 _) (by repeat first | exact .here _ _ | assumption | apply Pick.there)).recast (show _ = rowA 5 1 A45 ((n13 + n17 + n22) + n44) c45 ((cb0 x ++ enc (zig x.account)).map bv) from by simp only [List.map_append])
              refine t_q (q_as (.slice _ _ _) rfl) ?_
              refine t_nil ?_
              refine c_seq ?_
              refine c_region ?_
              refine t_q (q_mv (.slice _ _ _) rfl) ?_
              refine t_q (q_fieldAddr 4 Try.runUnderlying49 rfl Try.sizeOf26 (by decide) rfl rfl) ?_
              refine t_q (q_load1 Try.isAgg26 rfl (hS.cell (by repeat first | exact .here _ _ | assumption | apply Pick.there) rfl)) ?_
              refine t_call Try.call86 (qwNat (n := x.id) hS (by omega) (by omega)) rfl ?_
              rintro e w ⟨A49, n49, c49, rfl, hn49, hS⟩
              refine ⟨_, rfl, ?_⟩
              have ht49 := enc_ten (n := (x.id).toNat) (by omega)
              refine t_append_own (size := 1) (bytes := 1) Try.underlying74 (info_of Try.type5) rfl rfl rfl rfl (by decide) hS (by repeat first | exact .here _ _ | assumption | apply Pick.there) (by repeat first | exact .here _ _ | assumption | apply Pick.there) rfl rfl (by first | exact allOne_bv _ | exact allOne_ints _ _ | rfl) (by unfold maxLen; omega) (by omega) (fun A50 c50 w hS => ?_)
              replace hS := (hS.pick (A := rowA 5 1 A50 _ c50 _) (by repeat first | exact .here _ _ | assumption | apply Pick.there)).recast (show _ = rowA 5 1 A50 ((n13 + n17 + n22 + n44) + n49) c50 (((cb0 x ++ enc (zig x.account)) ++ enc x.id.toNat).map bv) from by simp only [List.map_append])
              refine t_q (q_as (.slice _ _ _) rfl) ?_
              refine t_nil ?_
              refine c_seq ?_
              refine c_seq ?_
              refine c_region ?_
              refine t_q (q_fieldAddr 0 Try.runUnderlying49 rfl Try.sizeOf3 (by decide) rfl rfl) ?_
              refine t_q (q_load1 Try.isAgg3 rfl (hS.cell (by repeat first | exact .here _ _ | assumption | apply Pick.there) rfl)) ?_
              refine t_q (q_eql rfl rfl) ?_
              refine t_nil ?_
              refine c_cond rfl ?_ ?_
              · intro hc21
                have hc21d := of_decide_eq_true hc21
                skip
                refine c_region ?_
                refine t_q (q_fieldAddr 5 Try.runUnderlying49 rfl Try.sizeOf3 (by decide) rfl rfl) ?_
                refine t_q (q_load1 Try.isAgg3 rfl (hS.cell (by repeat first | exact .here _ _ | assumption | apply Pick.there) rfl)) ?_
                refine t_q (q_fieldAddr 6 Try.runUnderlying49 rfl Try.sizeOf3 (by decide) rfl rfl) ?_
                refine t_q (q_load1 Try.isAgg3 rfl (hS.cell (by repeat first | exact .here _ _ | assumption | apply Pick.there) rfl)) ?_
                refine t_q (q_fieldAddr 8 Try.runUnderlying49 rfl Try.sizeOf2 (by decide) rfl rfl) ?_
                refine t_q (q_load1 Try.isAgg2 rfl (hS.cell (by repeat first | exact .here _ _ | assumption | apply Pick.there) rfl)) ?_
                refine t_q (q_fieldAddr 9 Try.runUnderlying49 rfl Try.sizeOf2 (by decide) rfl rfl) ?_
                refine t_q (q_load1 Try.isAgg2 rfl (hS.cell (by repeat first | exact .here _ _ | assumption | apply Pick.there) rfl)) ?_
                refine t_build_ints [_, _, _, _] Try.runUnderlying158 Try.sizeOf2 Try.zeroValue2 rfl rfl (by decide) hS (fun g62 w hS => ?_)
                refine t_q (q_as (.slice _ _ _) rfl) ?_
                refine t_nil ?_
                refine c_seq ?_
                refine c_region ?_
                refine t_q (q_fieldAddr 0 Try.runUnderlying49 rfl Try.sizeOf3 (by decide) rfl rfl) ?_
                refine t_q (q_load1 Try.isAgg3 rfl (hS.cell (by repeat first | exact .here _ _ | assumption | apply Pick.there) rfl)) ?_
                refine t_q (q_eql rfl rfl) ?_
                refine t_nil ?_
                refine c_cond rfl ?_ ?_
                · intro hc23
                  have hc23d := of_decide_eq_true hc23
                  skip
                  refine c_region ?_
                  refine t_q (q_fieldAddr 8 Try.runUnderlying49 rfl Try.sizeOf2 (by decide) rfl rfl) ?_
                  refine t_q (q_load1 Try.isAgg2 rfl (hS.cell (by repeat first | exact .here _ _ | assumption | apply Pick.there) rfl)) ?_
                  refine t_q (q_fieldAddr 9 Try.runUnderlying49 rfl Try.sizeOf2 (by decide) rfl rfl) ?_
                  refine t_q (q_load1 Try.isAgg2 rfl (hS.cell (by repeat first | exact .here _ _ | assumption | apply Pick.there) rfl)) ?_
                  refine t_build_ints [_, _] Try.runUnderlying158 Try.sizeOf2 Try.zeroValue2 rfl rfl (by decide) hS (fun g70 w hS => ?_)
                  refine t_q (q_as (.slice _ _ _) rfl) ?_
                  refine t_nil ?_
                  first
                    | (exfalso; omega)
                    | (exact ⟨[x.price, x.qty], (cb0 x ++ enc (zig x.account)) ++ enc x.id.toNat, A50, _, c50, g70, rfl, rfl, (by simp only [List.length_append, cb0] <;> omega), (by intro n hn; simp only [List.mem_cons, List.not_mem_nil, or_false] at hn <;> omega), (by simp), (by simp only [List.length_append, cb0] <;> omega), cb_k5 (by omega), (((hS.pick (A := blkA g1 49 [.int .i64 x.kind, .int .u64 x.client, .int .u64 x.req, .int .i64 x.account, .int .u64 x.id, .int .i64 x.side, .int .i64 x.typ, .int .i64 x.asset, .int .i64 x.price, .int .i64 x.qty, .int .i64 x.version, .int .i64 x.replica, .int .u64 x.at_, .int .i64 x.rules.version, .slice x.rules.ticks.A x.rules.ticks.l.length x.rules.ticks.c, .int .i64 x.rules.lot, .int .i64 x.rules.band, .slice x.rules.fees.A x.rules.fees.l.length x.rules.fees.c, .int .i64 x.rules.round, .int .i64 x.rules.priority, .int .i64 x.rules.self, .int .i64 x.rules.layout]) (by repeat first | exact .here _ _ | assumption | apply Pick.there)).pick (A := rowA 2 1 (some ⟨g70, 0, none⟩) _ _ _) (by repeat first | exact .here _ _ | assumption | apply Pick.there)).pick (A := rowA 5 1 A50 _ c50 _) (by repeat first | exact .here _ _ | assumption | apply Pick.there)).front3⟩)
                · intro hc23
                  have hc23d := of_decide_eq_false hc23
                  skip
                  refine c_skip ?_
                  first
                    | (exfalso; omega)
                    | (exact ⟨[x.side, x.typ, x.price, x.qty], (cb0 x ++ enc (zig x.account)) ++ enc x.id.toNat, A50, _, c50, g62, rfl, rfl, (by simp only [List.length_append, cb0] <;> omega), (by intro n hn; simp only [List.mem_cons, List.not_mem_nil, or_false] at hn <;> omega), (by simp), (by simp only [List.length_append, cb0] <;> omega), cb_k3 (by omega), (((hS.pick (A := blkA g1 49 [.int .i64 x.kind, .int .u64 x.client, .int .u64 x.req, .int .i64 x.account, .int .u64 x.id, .int .i64 x.side, .int .i64 x.typ, .int .i64 x.asset, .int .i64 x.price, .int .i64 x.qty, .int .i64 x.version, .int .i64 x.replica, .int .u64 x.at_, .int .i64 x.rules.version, .slice x.rules.ticks.A x.rules.ticks.l.length x.rules.ticks.c, .int .i64 x.rules.lot, .int .i64 x.rules.band, .slice x.rules.fees.A x.rules.fees.l.length x.rules.fees.c, .int .i64 x.rules.round, .int .i64 x.rules.priority, .int .i64 x.rules.self, .int .i64 x.rules.layout]) (by repeat first | exact .here _ _ | assumption | apply Pick.there)).pick (A := rowA 2 1 (some ⟨g62, 0, none⟩) _ _ _) (by repeat first | exact .here _ _ | assumption | apply Pick.there)).pick (A := rowA 5 1 A50 _ c50 _) (by repeat first | exact .here _ _ | assumption | apply Pick.there)).front3⟩)
              · intro hc21
                have hc21d := of_decide_eq_false hc21
                skip
                refine c_skip ?_
                refine c_seq ?_
                refine c_region ?_
                refine t_q (q_fieldAddr 0 Try.runUnderlying49 rfl Try.sizeOf3 (by decide) rfl rfl) ?_
                refine t_q (q_load1 Try.isAgg3 rfl (hS.cell (by repeat first | exact .here _ _ | assumption | apply Pick.there) rfl)) ?_
                refine t_q (q_eql rfl rfl) ?_
                refine t_nil ?_
                refine c_cond rfl ?_ ?_
                · intro hc25
                  have hc25d := of_decide_eq_true hc25
                  skip
                  refine c_region ?_
                  refine t_q (q_fieldAddr 8 Try.runUnderlying49 rfl Try.sizeOf2 (by decide) rfl rfl) ?_
                  refine t_q (q_load1 Try.isAgg2 rfl (hS.cell (by repeat first | exact .here _ _ | assumption | apply Pick.there) rfl)) ?_
                  refine t_q (q_fieldAddr 9 Try.runUnderlying49 rfl Try.sizeOf2 (by decide) rfl rfl) ?_
                  refine t_q (q_load1 Try.isAgg2 rfl (hS.cell (by repeat first | exact .here _ _ | assumption | apply Pick.there) rfl)) ?_
                  refine t_build_ints [_, _] Try.runUnderlying158 Try.sizeOf2 Try.zeroValue2 rfl rfl (by decide) hS (fun g70 w hS => ?_)
                  refine t_q (q_as (.slice _ _ _) rfl) ?_
                  refine t_nil ?_
                  first
                    | (exfalso; omega)
                    | (exact ⟨[x.price, x.qty], (cb0 x ++ enc (zig x.account)) ++ enc x.id.toNat, A50, _, c50, g70, rfl, rfl, (by simp only [List.length_append, cb0] <;> omega), (by intro n hn; simp only [List.mem_cons, List.not_mem_nil, or_false] at hn <;> omega), (by simp), (by simp only [List.length_append, cb0] <;> omega), cb_k5 (by omega), (((hS.pick (A := blkA g1 49 [.int .i64 x.kind, .int .u64 x.client, .int .u64 x.req, .int .i64 x.account, .int .u64 x.id, .int .i64 x.side, .int .i64 x.typ, .int .i64 x.asset, .int .i64 x.price, .int .i64 x.qty, .int .i64 x.version, .int .i64 x.replica, .int .u64 x.at_, .int .i64 x.rules.version, .slice x.rules.ticks.A x.rules.ticks.l.length x.rules.ticks.c, .int .i64 x.rules.lot, .int .i64 x.rules.band, .slice x.rules.fees.A x.rules.fees.l.length x.rules.fees.c, .int .i64 x.rules.round, .int .i64 x.rules.priority, .int .i64 x.rules.self, .int .i64 x.rules.layout]) (by repeat first | exact .here _ _ | assumption | apply Pick.there)).pick (A := rowA 2 1 (some ⟨g70, 0, none⟩) _ _ _) (by repeat first | exact .here _ _ | assumption | apply Pick.there)).pick (A := rowA 5 1 A50 _ c50 _) (by repeat first | exact .here _ _ | assumption | apply Pick.there)).front3⟩)
                · intro hc25
                  have hc25d := of_decide_eq_false hc25
                  skip
                  refine c_skip ?_
                  first
                    | (exfalso; omega)
                    | (exact ⟨[], (cb0 x ++ enc (zig x.account)) ++ enc x.id.toNat, A50, _, c50, g24, rfl, rfl, (by simp only [List.length_append, cb0] <;> omega), (by intro n hn; simp only [List.mem_cons, List.not_mem_nil, or_false] at hn <;> omega), (by simp), (by simp only [List.length_append, cb0] <;> omega), cb_k4 (by omega), (((hS.pick (A := blkA g1 49 [.int .i64 x.kind, .int .u64 x.client, .int .u64 x.req, .int .i64 x.account, .int .u64 x.id, .int .i64 x.side, .int .i64 x.typ, .int .i64 x.asset, .int .i64 x.price, .int .i64 x.qty, .int .i64 x.version, .int .i64 x.replica, .int .u64 x.at_, .int .i64 x.rules.version, .slice x.rules.ticks.A x.rules.ticks.l.length x.rules.ticks.c, .int .i64 x.rules.lot, .int .i64 x.rules.band, .slice x.rules.fees.A x.rules.fees.l.length x.rules.fees.c, .int .i64 x.rules.round, .int .i64 x.rules.priority, .int .i64 x.rules.self, .int .i64 x.rules.layout]) (by repeat first | exact .here _ _ | assumption | apply Pick.there)).pick (A := rowA 2 1 (some ⟨g24, 0, none⟩) _ _ _) (by repeat first | exact .here _ _ | assumption | apply Pick.there)).pick (A := rowA 5 1 A50 _ c50 _) (by repeat first | exact .here _ _ | assumption | apply Pick.there)).front3⟩)
            · intro hc17
              first
                | have hkb : ¬ (x.kind = 3 ∨ x.kind = 4 ∨ x.kind = 5) := of_decide_eq_false hc17
                | skip
              refine c_seq ?_
              refine c_region ?_
              refine t_q (q_eql rfl rfl) ?_
              refine t_q (q_as (.bool _) rfl) ?_
              refine t_nil ?_
              refine c_cond rfl ?_ ?_
              · intro hc27
                have hc27d := of_decide_eq_true hc27
                skip
                refine c_region ?_
                refine t_q (q_fieldAddr 3 Try.runUnderlying49 rfl Try.sizeOf3 (by decide) rfl rfl) ?_
                refine t_q (q_load1 Try.isAgg3 rfl (hS.cell (by repeat first | exact .here _ _ | assumption | apply Pick.there) rfl)) ?_
                refine t_build_ints [_] Try.runUnderlying158 Try.sizeOf2 Try.zeroValue2 rfl rfl (by decide) hS (fun g75 w hS => ?_)
                refine t_q (q_as (.slice _ _ _) rfl) ?_
                refine t_nil ?_
                exact ⟨[x.account], cb0 x, A23, _, c23, g75, rfl, rfl, (by simp only [List.length_append, cb0] <;> omega), (by intro n hn; simp only [List.mem_cons, List.not_mem_nil, or_false] at hn <;> omega), (by simp), (by simp only [List.length_append, cb0] <;> omega), cb_k8 (by omega), (((hS.pick (A := blkA g1 49 [.int .i64 x.kind, .int .u64 x.client, .int .u64 x.req, .int .i64 x.account, .int .u64 x.id, .int .i64 x.side, .int .i64 x.typ, .int .i64 x.asset, .int .i64 x.price, .int .i64 x.qty, .int .i64 x.version, .int .i64 x.replica, .int .u64 x.at_, .int .i64 x.rules.version, .slice x.rules.ticks.A x.rules.ticks.l.length x.rules.ticks.c, .int .i64 x.rules.lot, .int .i64 x.rules.band, .slice x.rules.fees.A x.rules.fees.l.length x.rules.fees.c, .int .i64 x.rules.round, .int .i64 x.rules.priority, .int .i64 x.rules.self, .int .i64 x.rules.layout]) (by repeat first | exact .here _ _ | assumption | apply Pick.there)).pick (A := rowA 2 1 (some ⟨g75, 0, none⟩) _ _ _) (by repeat first | exact .here _ _ | assumption | apply Pick.there)).pick (A := rowA 5 1 A23 _ c23 _) (by repeat first | exact .here _ _ | assumption | apply Pick.there)).front3⟩
              · intro hc27
                have hc27d := of_decide_eq_false hc27
                refine c_seq ?_
                refine c_region ?_
                refine t_q (q_eql rfl rfl) ?_
                refine t_q (q_as (.bool _) rfl) ?_
                refine t_nil ?_
                refine c_cond rfl ?_ ?_
                · intro hc29
                  have hc29d := of_decide_eq_true hc29
                  skip
                  refine c_region ?_
                  refine t_q (q_fieldAddr 11 Try.runUnderlying49 rfl Try.sizeOf3 (by decide) rfl rfl) ?_
                  refine t_q (q_load1 Try.isAgg3 rfl (hS.cell (by repeat first | exact .here _ _ | assumption | apply Pick.there) rfl)) ?_
                  refine t_q (q_fieldAddr 10 Try.runUnderlying49 rfl Try.sizeOf3 (by decide) rfl rfl) ?_
                  refine t_q (q_load1 Try.isAgg3 rfl (hS.cell (by repeat first | exact .here _ _ | assumption | apply Pick.there) rfl)) ?_
                  refine t_build_ints [_, _] Try.runUnderlying158 Try.sizeOf2 Try.zeroValue2 rfl rfl (by decide) hS (fun g82 w hS => ?_)
                  refine t_q (q_as (.slice _ _ _) rfl) ?_
                  refine t_nil ?_
                  exact ⟨[x.replica, x.version], cb0 x, A23, _, c23, g82, rfl, rfl, (by simp only [List.length_append, cb0] <;> omega), (by intro n hn; simp only [List.mem_cons, List.not_mem_nil, or_false] at hn <;> omega), (by simp), (by simp only [List.length_append, cb0] <;> omega), cb_k10 (by omega), (((hS.pick (A := blkA g1 49 [.int .i64 x.kind, .int .u64 x.client, .int .u64 x.req, .int .i64 x.account, .int .u64 x.id, .int .i64 x.side, .int .i64 x.typ, .int .i64 x.asset, .int .i64 x.price, .int .i64 x.qty, .int .i64 x.version, .int .i64 x.replica, .int .u64 x.at_, .int .i64 x.rules.version, .slice x.rules.ticks.A x.rules.ticks.l.length x.rules.ticks.c, .int .i64 x.rules.lot, .int .i64 x.rules.band, .slice x.rules.fees.A x.rules.fees.l.length x.rules.fees.c, .int .i64 x.rules.round, .int .i64 x.rules.priority, .int .i64 x.rules.self, .int .i64 x.rules.layout]) (by repeat first | exact .here _ _ | assumption | apply Pick.there)).pick (A := rowA 2 1 (some ⟨g82, 0, none⟩) _ _ _) (by repeat first | exact .here _ _ | assumption | apply Pick.there)).pick (A := rowA 5 1 A23 _ c23 _) (by repeat first | exact .here _ _ | assumption | apply Pick.there)).front3⟩
                · intro hc29
                  have hc29d := of_decide_eq_false hc29
                  refine c_cut [83, 84, 85] (fun σ w => σ 83 = .bool (decide (x.kind = 11 ∨ x.kind = 13)) ∧ St W w [rowA 5 1 A23 (n13 + n17 + n22) c23 ((cb0 x).map bv), rowA 2 1 (some ⟨g24, 0, none⟩) (([] : List Int)).length (([] : List Int)).length ((([] : List Int)).map (Value.int .i64)), blkA g1 49 [.int .i64 x.kind, .int .u64 x.client, .int .u64 x.req, .int .i64 x.account, .int .u64 x.id, .int .i64 x.side, .int .i64 x.typ, .int .i64 x.asset, .int .i64 x.price, .int .i64 x.qty, .int .i64 x.version, .int .i64 x.replica, .int .u64 x.at_, .int .i64 x.rules.version, .slice x.rules.ticks.A x.rules.ticks.l.length x.rules.ticks.c, .int .i64 x.rules.lot, .int .i64 x.rules.band, .slice x.rules.fees.A x.rules.fees.l.length x.rules.fees.c, .int .i64 x.rules.round, .int .i64 x.rules.priority, .int .i64 x.rules.self, .int .i64 x.rules.layout]]) rfl ?_ ?_
                  ·
                    refine c_seq ?_
                    refine c_region ?_
                    refine t_q (q_eql rfl rfl) ?_
                    refine t_q (q_as (.bool _) rfl) ?_
                    refine t_nil ?_
                    refine c_cond rfl ?_ ?_
                    · intro hc31
                      have hc31d := of_decide_eq_true hc31
                      have hkc : x.kind = 11 ∨ x.kind = 13 := by first | exact of_decide_eq_true hc31 | exact .inl (of_decide_eq_true hc31) | exact .inr (of_decide_eq_true hc31) | exact .inr (.inl (of_decide_eq_true hc31)) | exact .inr (.inr (of_decide_eq_true hc31))
                      refine c_skip ?_
                      exact ⟨congrArg Value.bool (by
                        first
                          | (rw [decide_eq_decide]; omega)
                          | (symm; apply decide_eq_true; omega)), (((hS.pick (A := blkA g1 49 [.int .i64 x.kind, .int .u64 x.client, .int .u64 x.req, .int .i64 x.account, .int .u64 x.id, .int .i64 x.side, .int .i64 x.typ, .int .i64 x.asset, .int .i64 x.price, .int .i64 x.qty, .int .i64 x.version, .int .i64 x.replica, .int .u64 x.at_, .int .i64 x.rules.version, .slice x.rules.ticks.A x.rules.ticks.l.length x.rules.ticks.c, .int .i64 x.rules.lot, .int .i64 x.rules.band, .slice x.rules.fees.A x.rules.fees.l.length x.rules.fees.c, .int .i64 x.rules.round, .int .i64 x.rules.priority, .int .i64 x.rules.self, .int .i64 x.rules.layout]) (by repeat first | exact .here _ _ | assumption | apply Pick.there)).pick (A := rowA 2 1 (some ⟨g24, 0, none⟩) _ _ _) (by repeat first | exact .here _ _ | assumption | apply Pick.there)).pick (A := rowA 5 1 A23 _ c23 _) (by repeat first | exact .here _ _ | assumption | apply Pick.there)).front3⟩
                    · intro hc31
                      have hc31d := of_decide_eq_false hc31
                      first
                        | have hkc : ¬ (x.kind = 11 ∨ x.kind = 13) := of_decide_eq_false hc31
                        | skip
                      refine c_region ?_
                      refine t_q (q_eql rfl rfl) ?_
                      refine t_q (q_as (.bool _) rfl) ?_
                      refine t_nil ?_
                      exact ⟨congrArg Value.bool (by
                        first
                          | (rw [decide_eq_decide]; omega)
                          | (symm; apply decide_eq_true; omega)), (((hS.pick (A := blkA g1 49 [.int .i64 x.kind, .int .u64 x.client, .int .u64 x.req, .int .i64 x.account, .int .u64 x.id, .int .i64 x.side, .int .i64 x.typ, .int .i64 x.asset, .int .i64 x.price, .int .i64 x.qty, .int .i64 x.version, .int .i64 x.replica, .int .u64 x.at_, .int .i64 x.rules.version, .slice x.rules.ticks.A x.rules.ticks.l.length x.rules.ticks.c, .int .i64 x.rules.lot, .int .i64 x.rules.band, .slice x.rules.fees.A x.rules.fees.l.length x.rules.fees.c, .int .i64 x.rules.round, .int .i64 x.rules.priority, .int .i64 x.rules.self, .int .i64 x.rules.layout]) (by repeat first | exact .here _ _ | assumption | apply Pick.there)).pick (A := rowA 2 1 (some ⟨g24, 0, none⟩) _ _ _) (by repeat first | exact .here _ _ | assumption | apply Pick.there)).pick (A := rowA 5 1 A23 _ c23 _) (by repeat first | exact .here _ _ | assumption | apply Pick.there)).front3⟩
                  ·
                    rintro σ w ⟨h83, hS⟩
                    refine c_know 83 h83 ?_
                    refine c_cond rfl ?_ ?_
                    · intro hc34
                      have hkc : x.kind = 11 ∨ x.kind = 13 := by first | exact of_decide_eq_true hc34 | exact .inl (of_decide_eq_true hc34) | exact .inr (of_decide_eq_true hc34) | exact .inr (.inl (of_decide_eq_true hc34)) | exact .inr (.inr (of_decide_eq_true hc34))
                      refine c_region ?_
                      refine t_q (q_fieldAddr 10 Try.runUnderlying49 rfl Try.sizeOf3 (by decide) rfl rfl) ?_
                      refine t_q (q_load1 Try.isAgg3 rfl (hS.cell (by repeat first | exact .here _ _ | assumption | apply Pick.there) rfl)) ?_
                      refine t_build_ints [_] Try.runUnderlying158 Try.sizeOf2 Try.zeroValue2 rfl rfl (by decide) hS (fun g88 w hS => ?_)
                      refine t_q (q_as (.slice _ _ _) rfl) ?_
                      refine t_nil ?_
                      rcases hkc with hkx | hkx
                      · exact ⟨[x.version], cb0 x, A23, _, c23, g88, rfl, rfl, (by simp only [List.length_append, cb0] <;> omega), (by intro n hn; simp only [List.mem_cons, List.not_mem_nil, or_false] at hn <;> omega), (by simp), (by simp only [List.length_append, cb0] <;> omega), cb_k11 (by omega), (((hS.pick (A := blkA g1 49 [.int .i64 x.kind, .int .u64 x.client, .int .u64 x.req, .int .i64 x.account, .int .u64 x.id, .int .i64 x.side, .int .i64 x.typ, .int .i64 x.asset, .int .i64 x.price, .int .i64 x.qty, .int .i64 x.version, .int .i64 x.replica, .int .u64 x.at_, .int .i64 x.rules.version, .slice x.rules.ticks.A x.rules.ticks.l.length x.rules.ticks.c, .int .i64 x.rules.lot, .int .i64 x.rules.band, .slice x.rules.fees.A x.rules.fees.l.length x.rules.fees.c, .int .i64 x.rules.round, .int .i64 x.rules.priority, .int .i64 x.rules.self, .int .i64 x.rules.layout]) (by repeat first | exact .here _ _ | assumption | apply Pick.there)).pick (A := rowA 2 1 (some ⟨g88, 0, none⟩) _ _ _) (by repeat first | exact .here _ _ | assumption | apply Pick.there)).pick (A := rowA 5 1 A23 _ c23 _) (by repeat first | exact .here _ _ | assumption | apply Pick.there)).front3⟩
                      · exact ⟨[x.version], cb0 x, A23, _, c23, g88, rfl, rfl, (by simp only [List.length_append, cb0] <;> omega), (by intro n hn; simp only [List.mem_cons, List.not_mem_nil, or_false] at hn <;> omega), (by simp), (by simp only [List.length_append, cb0] <;> omega), cb_k13 (by omega), (((hS.pick (A := blkA g1 49 [.int .i64 x.kind, .int .u64 x.client, .int .u64 x.req, .int .i64 x.account, .int .u64 x.id, .int .i64 x.side, .int .i64 x.typ, .int .i64 x.asset, .int .i64 x.price, .int .i64 x.qty, .int .i64 x.version, .int .i64 x.replica, .int .u64 x.at_, .int .i64 x.rules.version, .slice x.rules.ticks.A x.rules.ticks.l.length x.rules.ticks.c, .int .i64 x.rules.lot, .int .i64 x.rules.band, .slice x.rules.fees.A x.rules.fees.l.length x.rules.fees.c, .int .i64 x.rules.round, .int .i64 x.rules.priority, .int .i64 x.rules.self, .int .i64 x.rules.layout]) (by repeat first | exact .here _ _ | assumption | apply Pick.there)).pick (A := rowA 2 1 (some ⟨g88, 0, none⟩) _ _ _) (by repeat first | exact .here _ _ | assumption | apply Pick.there)).pick (A := rowA 5 1 A23 _ c23 _) (by repeat first | exact .here _ _ | assumption | apply Pick.there)).front3⟩
                    · intro hc34
                      first
                        | have hkc : ¬ (x.kind = 11 ∨ x.kind = 13) := of_decide_eq_false hc34
                        | skip
                      refine c_skip ?_
                      by_cases h9 : x.kind = 9
                      · exact ⟨[], cb0 x, A23, _, c23, g24, rfl, rfl, (by simp only [List.length_append, cb0] <;> omega), (by intro n hn; simp only [List.mem_cons, List.not_mem_nil, or_false] at hn <;> omega), (by simp), (by simp only [List.length_append, cb0] <;> omega), cb_k9 (by omega), (((hS.pick (A := blkA g1 49 [.int .i64 x.kind, .int .u64 x.client, .int .u64 x.req, .int .i64 x.account, .int .u64 x.id, .int .i64 x.side, .int .i64 x.typ, .int .i64 x.asset, .int .i64 x.price, .int .i64 x.qty, .int .i64 x.version, .int .i64 x.replica, .int .u64 x.at_, .int .i64 x.rules.version, .slice x.rules.ticks.A x.rules.ticks.l.length x.rules.ticks.c, .int .i64 x.rules.lot, .int .i64 x.rules.band, .slice x.rules.fees.A x.rules.fees.l.length x.rules.fees.c, .int .i64 x.rules.round, .int .i64 x.rules.priority, .int .i64 x.rules.self, .int .i64 x.rules.layout]) (by repeat first | exact .here _ _ | assumption | apply Pick.there)).pick (A := rowA 2 1 (some ⟨g24, 0, none⟩) _ _ _) (by repeat first | exact .here _ _ | assumption | apply Pick.there)).pick (A := rowA 5 1 A23 _ c23 _) (by repeat first | exact .here _ _ | assumption | apply Pick.there)).front3⟩
                      · exact ⟨[], cb0 x, A23, _, c23, g24, rfl, rfl, (by simp only [List.length_append, cb0] <;> omega), (by intro n hn; simp only [List.mem_cons, List.not_mem_nil, or_false] at hn <;> omega), (by simp), (by simp only [List.length_append, cb0] <;> omega), cb_k0 (by omega), (((hS.pick (A := blkA g1 49 [.int .i64 x.kind, .int .u64 x.client, .int .u64 x.req, .int .i64 x.account, .int .u64 x.id, .int .i64 x.side, .int .i64 x.typ, .int .i64 x.asset, .int .i64 x.price, .int .i64 x.qty, .int .i64 x.version, .int .i64 x.replica, .int .u64 x.at_, .int .i64 x.rules.version, .slice x.rules.ticks.A x.rules.ticks.l.length x.rules.ticks.c, .int .i64 x.rules.lot, .int .i64 x.rules.band, .slice x.rules.fees.A x.rules.fees.l.length x.rules.fees.c, .int .i64 x.rules.round, .int .i64 x.rules.priority, .int .i64 x.rules.self, .int .i64 x.rules.layout]) (by repeat first | exact .here _ _ | assumption | apply Pick.there)).pick (A := rowA 2 1 (some ⟨g24, 0, none⟩) _ _ _) (by repeat first | exact .here _ _ | assumption | apply Pick.there)).pick (A := rowA 5 1 A23 _ c23 _) (by repeat first | exact .here _ _ | assumption | apply Pick.there)).front3⟩
    ·
      rintro σ w ⟨ns, bs, A', m, c', gn, h4, h5, hm, hns, hnl, hbl, hB, hS⟩
      refine c_know 4 h4 ?_
      refine c_know 5 h5 ?_
      refine c_seq ?_
      refine c_seq ?_
      refine c_region ?_
      refine t_q (q_assign) ?_
      refine t_nil ?_
      refine c_block ?_
      refine c_loop [4, 6, 89, 90, 91, 92, 93, 94, 95, 96, 97, 98, 99, 100, 101] (fun k σ w => ∃ (j : Nat) (A' : Option Addr) (m c' : Nat), σ 6 = .int .i64 (j : Int) ∧ σ 4 = .slice A' m c' ∧ m = (bs ++ ints (ns.take j)).length ∧ j ≤ ns.length ∧ ns.length - j ≤ k ∧ St W w [rowA 5 1 A' m c' (((bs ++ ints (ns.take j))).map bv), rowA 2 1 (some ⟨gn, 0, none⟩) (ns).length (ns).length ((ns).map (Value.int .i64)), blkA g1 49 [.int .i64 x.kind, .int .u64 x.client, .int .u64 x.req, .int .i64 x.account, .int .u64 x.id, .int .i64 x.side, .int .i64 x.typ, .int .i64 x.asset, .int .i64 x.price, .int .i64 x.qty, .int .i64 x.version, .int .i64 x.replica, .int .u64 x.at_, .int .i64 x.rules.version, .slice x.rules.ticks.A x.rules.ticks.l.length x.rules.ticks.c, .int .i64 x.rules.lot, .int .i64 x.rules.band, .slice x.rules.fees.A x.rules.fees.l.length x.rules.fees.c, .int .i64 x.rules.round, .int .i64 x.rules.priority, .int .i64 x.rules.self, .int .i64 x.rules.layout]]) (ns.length) rfl (⟨0, A', m, c', rfl, rfl, (by rw [hm]; simp [ints]), by omega, by omega, (((((hS.pick (A := blkA g1 49 [.int .i64 x.kind, .int .u64 x.client, .int .u64 x.req, .int .i64 x.account, .int .u64 x.id, .int .i64 x.side, .int .i64 x.typ, .int .i64 x.asset, .int .i64 x.price, .int .i64 x.qty, .int .i64 x.version, .int .i64 x.replica, .int .u64 x.at_, .int .i64 x.rules.version, .slice x.rules.ticks.A x.rules.ticks.l.length x.rules.ticks.c, .int .i64 x.rules.lot, .int .i64 x.rules.band, .slice x.rules.fees.A x.rules.fees.l.length x.rules.fees.c, .int .i64 x.rules.round, .int .i64 x.rules.priority, .int .i64 x.rules.self, .int .i64 x.rules.layout]) (by repeat first | exact .here _ _ | assumption | apply Pick.there)).pick (A := rowA 2 1 _ _ _ _) (by repeat first | exact .here _ _ | assumption | apply Pick.there)).pick (A := rowA 5 1 A' _ _ _) (by repeat first | exact .here _ _ | assumption | apply Pick.there))).front3).recast (congrArg (rowA 5 1 A' m c') (by simp [ints]))⟩) ?_
      skip
      rintro k σ w ⟨j, A', m, c', hj0, h4, hm, hj, hk, hS⟩
      refine c_know 6 hj0 ?_
      refine c_know 4 h4 ?_
      clear hj0 h4
      have hil := ints_length (ns := ns.take j) (fun n hn => hns n (List.mem_of_mem_take hn))
      rw [List.length_take] at hil
      have hml : m ≤ 90 := by rw [hm, List.length_append]; omega
      refine c_seq ?_
      refine c_seq ?_
      refine c_region ?_
      refine t_q (q_mv (.int _ _) rfl) ?_
      refine t_q (q_mv (.slice _ _ _) rfl) ?_
      refine t_q (q_len_slice Try.runUnderlying158 rfl) ?_
      refine t_q (q_lss rfl rfl) ?_
      refine t_nil ?_
      refine c_cond rfl ?_ ?_
      · intro hc36
        have hc36d := of_decide_eq_true hc36
        have hz := hns (ns.getD j 0) (by rw [List.getD_eq_getElem?_getD, List.getElem?_eq_getElem (show j < ns.length by omega)]; exact List.getElem_mem _)
        refine c_skip ?_
        refine c_seq ?_
        refine c_block ?_
        refine c_region ?_
        refine t_q (q_mv (.slice _ _ _) rfl) ?_
        refine t_q (q_mv (.slice _ _ _) rfl) ?_
        refine t_q (q_mv (.int _ _) rfl) ?_
        first | refine t_index_nat Try.runUnderlying158 Try.sizeOf2 (hS.rowInts (ns := ns) (by repeat first | exact .here _ _ | assumption | apply Pick.there) rfl) rfl rfl (by omega) (fun ad37 hl37 hx37 => ?_) | refine t_index Try.runUnderlying158 Try.sizeOf2 (hS.rowInts (ns := ns) (by repeat first | exact .here _ _ | assumption | apply Pick.there) rfl) rfl rfl (by omega) (fun ad37 hl37 hx37 => ?_)
        refine t_q (q_load1 Try.isAgg2 rfl (hx37 0 _ rfl)) ?_
        refine t_call Try.call85 (qwInt (n := (ns.getD j 0)) hS (by omega) (by omega)) rfl ?_
        rintro e w ⟨A100, n100, c100, rfl, hn100, hS⟩
        refine ⟨_, rfl, ?_⟩
        have ht100 := zlen (n := (ns.getD j 0)) ⟨by omega, by omega⟩
        refine t_append_own (size := 1) (bytes := 1) Try.underlying74 (info_of Try.type5) rfl rfl rfl rfl (by decide) hS (by repeat first | exact .here _ _ | assumption | apply Pick.there) (by repeat first | exact .here _ _ | assumption | apply Pick.there) rfl rfl (by first | exact allOne_bv _ | exact allOne_ints _ _ | rfl) (by unfold maxLen; omega) (by omega) (fun A101 c101 w hS => ?_)
        replace hS := (hS.pick (A := rowA 5 1 A101 _ c101 _) (by repeat first | exact .here _ _ | assumption | apply Pick.there)).recast (show _ = rowA 5 1 A101 (m + n100) c101 (((bs ++ ints (ns.take j)) ++ enc (zig (ns.getD j 0))).map bv) from by simp only [List.map_append])
        refine t_q (q_as (.slice _ _ _) rfl) ?_
        refine t_nil ?_
        refine c_region ?_
        refine t_q (q_mv (.int _ _) rfl) ?_
        refine t_q (q_add_i64 rfl rfl (by omega)) ?_
        refine t_q (q_as (.int _ _) rfl) ?_
        refine t_nil ?_
        replace hS := (hS.pick (A := rowA 5 1 A101 _ c101 _) (by repeat first | exact .here _ _ | assumption | apply Pick.there)).recast (congrArg (rowA 5 1 A101 _ c101) (show _ = (bs ++ ints (ns.take (j + 1))).map bv from by rw [ints_snoc (by omega)]; simp))
        refine ⟨k - 1, by omega, j + 1, A101, _, c101, rfl, rfl, ?_, by omega, by omega, ((((hS.pick (A := blkA g1 49 [.int .i64 x.kind, .int .u64 x.client, .int .u64 x.req, .int .i64 x.account, .int .u64 x.id, .int .i64 x.side, .int .i64 x.typ, .int .i64 x.asset, .int .i64 x.price, .int .i64 x.qty, .int .i64 x.version, .int .i64 x.replica, .int .u64 x.at_, .int .i64 x.rules.version, .slice x.rules.ticks.A x.rules.ticks.l.length x.rules.ticks.c, .int .i64 x.rules.lot, .int .i64 x.rules.band, .slice x.rules.fees.A x.rules.fees.l.length x.rules.fees.c, .int .i64 x.rules.round, .int .i64 x.rules.priority, .int .i64 x.rules.self, .int .i64 x.rules.layout]) (by repeat first | exact .here _ _ | assumption | apply Pick.there)).pick (A := rowA 2 1 _ _ _ _) (by repeat first | exact .here _ _ | assumption | apply Pick.there)).pick (A := rowA 5 1 A101 _ c101 _) (by repeat first | exact .here _ _ | assumption | apply Pick.there))).front3⟩
        rw [ints_snoc (by omega), hm, hn100]
        simp
        omega
      · intro hc36
        have hc36d := of_decide_eq_false hc36
        obtain rfl : j = ns.length := by omega
        replace hS := (hS.pick (A := rowA 5 1 A' m c' _) (by repeat first | exact .here _ _ | assumption | apply Pick.there)).recast (show _ = rowA 5 1 A' m c' ((bs ++ ints ns).map bv) from by rw [List.take_length])
        rw [List.take_length] at hm
        obtain ⟨bq, hbq0⟩ : ∃ b, b = bs ++ ints ns := ⟨_, rfl⟩
        rw [← hbq0] at hm hS hB
        have hbq := hB
        have hil := ints_length hns
        have hml : bq.length ≤ 90 := by rw [hbq0, List.length_append]; omega
        obtain ⟨Aq, hAq⟩ : ∃ a, a = A' := ⟨_, rfl⟩
        obtain ⟨cq, hcq⟩ : ∃ a, a = c' := ⟨_, rfl⟩
        subst hAq hcq
        refine c_exit ?_
        refine ite_t rfl ?_
        refine c_cut [4, 102, 103, 104, 105, 106, 107, 108, 109] (fun σ w => ∃ (b2 : List UInt8) (A' : Option Addr) (m c' : Nat), σ 4 = .slice A' m c' ∧ m = b2.length ∧ b2.length ≤ 50000200 ∧ cbB x = b2 ++ cT13 x ∧ St W w [rowA 5 1 A' m c' ((b2).map bv), blkA g1 49 [.int .i64 x.kind, .int .u64 x.client, .int .u64 x.req, .int .i64 x.account, .int .u64 x.id, .int .i64 x.side, .int .i64 x.typ, .int .i64 x.asset, .int .i64 x.price, .int .i64 x.qty, .int .i64 x.version, .int .i64 x.replica, .int .u64 x.at_, .int .i64 x.rules.version, .slice x.rules.ticks.A x.rules.ticks.l.length x.rules.ticks.c, .int .i64 x.rules.lot, .int .i64 x.rules.band, .slice x.rules.fees.A x.rules.fees.l.length x.rules.fees.c, .int .i64 x.rules.round, .int .i64 x.rules.priority, .int .i64 x.rules.self, .int .i64 x.rules.layout]]) rfl ?_ ?_
        ·
          refine c_seq ?_
          refine c_region ?_
          refine t_q (q_fieldAddr 0 Try.runUnderlying49 rfl Try.sizeOf3 (by decide) rfl rfl) ?_
          refine t_q (q_load1 Try.isAgg3 rfl (hS.cell (by repeat first | exact .here _ _ | assumption | apply Pick.there) rfl)) ?_
          refine t_q (q_eql rfl rfl) ?_
          refine t_nil ?_
          refine c_cond rfl ?_ ?_
          · intro hc40
            have hc40d := of_decide_eq_true hc40
            have e9 : cT9 x = ruB x.rules := by unfold cT9; exact if_pos (by omega)
            refine c_region ?_
            refine t_q (q_mv (.slice _ _ _) rfl) ?_
            refine t_q (q_fieldAddr 13 Try.runUnderlying49 rfl Try.sizeOf47 (by decide) rfl rfl) ?_
            refine t_q (q_cast (v' := .agg x.rules.cells.toArray) (q_load_sub Try.isAgg47 Try.sizeOf47 rfl (hS.blk (by repeat first | exact .here _ _ | assumption | apply Pick.there)) (by show 0 + 13 + 9 ≤ 22; decide)) (by rfl)) ?_
            refine t_call Try.call95 (qrbytes_calls (x := x.rules) (hx.rules.st hS)) rfl ?_
            rintro e w ⟨A108, n108, c108, rfl, hn108, hT⟩
            refine ⟨_, rfl, ?_⟩
            have hS : St W w (_ :: _) := hS.lift hT
            have ht108 := (ru_lens hx.rules).2.2.2.2.2
            refine t_append_own (size := 1) (bytes := 1) Try.underlying74 (info_of Try.type5) rfl rfl rfl rfl (by decide) hS (by repeat first | exact .here _ _ | assumption | apply Pick.there) (by repeat first | exact .here _ _ | assumption | apply Pick.there) rfl rfl (by first | exact allOne_bv _ | exact allOne_ints _ _ | rfl) (by unfold maxLen; omega) (by omega) (fun A109 c109 w hS => ?_)
            replace hS := (hS.pick (A := rowA 5 1 A109 _ c109 _) (by repeat first | exact .here _ _ | assumption | apply Pick.there)).recast (show _ = rowA 5 1 A109 (m + n108) c109 ((bq ++ ruB x.rules).map bv) from by simp only [List.map_append])
            refine t_q (q_as (.slice _ _ _) rfl) ?_
            refine t_nil ?_
            first
              | exact ⟨bq ++ ruB x.rules, A109, _, c109, rfl, (by rw [List.length_append]; omega), (by rw [List.length_append]; omega), (by rw [hbq, e9]), ((hS.pick (A := blkA g1 49 [.int .i64 x.kind, .int .u64 x.client, .int .u64 x.req, .int .i64 x.account, .int .u64 x.id, .int .i64 x.side, .int .i64 x.typ, .int .i64 x.asset, .int .i64 x.price, .int .i64 x.qty, .int .i64 x.version, .int .i64 x.replica, .int .u64 x.at_, .int .i64 x.rules.version, .slice x.rules.ticks.A x.rules.ticks.l.length x.rules.ticks.c, .int .i64 x.rules.lot, .int .i64 x.rules.band, .slice x.rules.fees.A x.rules.fees.l.length x.rules.fees.c, .int .i64 x.rules.round, .int .i64 x.rules.priority, .int .i64 x.rules.self, .int .i64 x.rules.layout]) (by repeat first | exact .here _ _ | assumption | apply Pick.there)).pick (A := rowA 5 1 A109 _ c109 _) (by repeat first | exact .here _ _ | assumption | apply Pick.there)).front2⟩
              | exact ⟨bq, Aq, _, cq, rfl, (by omega), (by omega), (by rw [hbq, e9, List.append_nil]), ((hS.pick (A := blkA g1 49 [.int .i64 x.kind, .int .u64 x.client, .int .u64 x.req, .int .i64 x.account, .int .u64 x.id, .int .i64 x.side, .int .i64 x.typ, .int .i64 x.asset, .int .i64 x.price, .int .i64 x.qty, .int .i64 x.version, .int .i64 x.replica, .int .u64 x.at_, .int .i64 x.rules.version, .slice x.rules.ticks.A x.rules.ticks.l.length x.rules.ticks.c, .int .i64 x.rules.lot, .int .i64 x.rules.band, .slice x.rules.fees.A x.rules.fees.l.length x.rules.fees.c, .int .i64 x.rules.round, .int .i64 x.rules.priority, .int .i64 x.rules.self, .int .i64 x.rules.layout]) (by repeat first | exact .here _ _ | assumption | apply Pick.there)).pick (A := rowA 5 1 Aq _ cq _) (by repeat first | exact .here _ _ | assumption | apply Pick.there)).front2⟩
          · intro hc40
            have hc40d := of_decide_eq_false hc40
            have e9 : cT9 x = [] := by unfold cT9; exact if_neg (by omega)
            refine c_skip ?_
            first
              | exact ⟨bq ++ ruB x.rules, A109, _, c109, rfl, (by rw [List.length_append]; omega), (by rw [List.length_append]; omega), (by rw [hbq, e9]), ((hS.pick (A := blkA g1 49 [.int .i64 x.kind, .int .u64 x.client, .int .u64 x.req, .int .i64 x.account, .int .u64 x.id, .int .i64 x.side, .int .i64 x.typ, .int .i64 x.asset, .int .i64 x.price, .int .i64 x.qty, .int .i64 x.version, .int .i64 x.replica, .int .u64 x.at_, .int .i64 x.rules.version, .slice x.rules.ticks.A x.rules.ticks.l.length x.rules.ticks.c, .int .i64 x.rules.lot, .int .i64 x.rules.band, .slice x.rules.fees.A x.rules.fees.l.length x.rules.fees.c, .int .i64 x.rules.round, .int .i64 x.rules.priority, .int .i64 x.rules.self, .int .i64 x.rules.layout]) (by repeat first | exact .here _ _ | assumption | apply Pick.there)).pick (A := rowA 5 1 A109 _ c109 _) (by repeat first | exact .here _ _ | assumption | apply Pick.there)).front2⟩
              | exact ⟨bq, Aq, _, cq, rfl, (by omega), (by omega), (by rw [hbq, e9, List.append_nil]), ((hS.pick (A := blkA g1 49 [.int .i64 x.kind, .int .u64 x.client, .int .u64 x.req, .int .i64 x.account, .int .u64 x.id, .int .i64 x.side, .int .i64 x.typ, .int .i64 x.asset, .int .i64 x.price, .int .i64 x.qty, .int .i64 x.version, .int .i64 x.replica, .int .u64 x.at_, .int .i64 x.rules.version, .slice x.rules.ticks.A x.rules.ticks.l.length x.rules.ticks.c, .int .i64 x.rules.lot, .int .i64 x.rules.band, .slice x.rules.fees.A x.rules.fees.l.length x.rules.fees.c, .int .i64 x.rules.round, .int .i64 x.rules.priority, .int .i64 x.rules.self, .int .i64 x.rules.layout]) (by repeat first | exact .here _ _ | assumption | apply Pick.there)).pick (A := rowA 5 1 Aq _ cq _) (by repeat first | exact .here _ _ | assumption | apply Pick.there)).front2⟩
        ·
          rintro σ w ⟨bq, Aq, m, cq, h4, hm, hml, hbq, hS⟩
          refine c_know 4 h4 ?_
          refine c_cut [4, 110, 111, 112, 113, 114, 115, 116, 117] (fun σ w => ∃ (b2 : List UInt8) (A' : Option Addr) (m c' : Nat), σ 4 = .slice A' m c' ∧ m = b2.length ∧ b2.length ≤ 50000220 ∧ cbB x = b2 ∧ St W w [rowA 5 1 A' m c' ((b2).map bv), blkA g1 49 [.int .i64 x.kind, .int .u64 x.client, .int .u64 x.req, .int .i64 x.account, .int .u64 x.id, .int .i64 x.side, .int .i64 x.typ, .int .i64 x.asset, .int .i64 x.price, .int .i64 x.qty, .int .i64 x.version, .int .i64 x.replica, .int .u64 x.at_, .int .i64 x.rules.version, .slice x.rules.ticks.A x.rules.ticks.l.length x.rules.ticks.c, .int .i64 x.rules.lot, .int .i64 x.rules.band, .slice x.rules.fees.A x.rules.fees.l.length x.rules.fees.c, .int .i64 x.rules.round, .int .i64 x.rules.priority, .int .i64 x.rules.self, .int .i64 x.rules.layout]]) rfl ?_ ?_
          ·
            refine c_seq ?_
            refine c_region ?_
            refine t_q (q_fieldAddr 0 Try.runUnderlying49 rfl Try.sizeOf3 (by decide) rfl rfl) ?_
            refine t_q (q_load1 Try.isAgg3 rfl (hS.cell (by repeat first | exact .here _ _ | assumption | apply Pick.there) rfl)) ?_
            refine t_q (q_eql rfl rfl) ?_
            refine t_nil ?_
            refine c_cond rfl ?_ ?_
            · intro hc43
              have hc43d := of_decide_eq_true hc43
              have e13 : cT13 x = enc x.at_.toNat := by unfold cT13; exact if_pos (by omega)
              refine c_region ?_
              refine t_q (q_mv (.slice _ _ _) rfl) ?_
              refine t_q (q_fieldAddr 12 Try.runUnderlying49 rfl Try.sizeOf26 (by decide) rfl rfl) ?_
              refine t_q (q_load1 Try.isAgg26 rfl (hS.cell (by repeat first | exact .here _ _ | assumption | apply Pick.there) rfl)) ?_
              refine t_call Try.call86 (qwNat (n := x.at_) hS (by omega) (by omega)) rfl ?_
              rintro e w ⟨A116, n116, c116, rfl, hn116, hS⟩
              refine ⟨_, rfl, ?_⟩
              have ht116 := enc_ten (n := (x.at_).toNat) (by omega)
              refine t_append_own (size := 1) (bytes := 1) Try.underlying74 (info_of Try.type5) rfl rfl rfl rfl (by decide) hS (by repeat first | exact .here _ _ | assumption | apply Pick.there) (by repeat first | exact .here _ _ | assumption | apply Pick.there) rfl rfl (by first | exact allOne_bv _ | exact allOne_ints _ _ | rfl) (by unfold maxLen; omega) (by omega) (fun A117 c117 w hS => ?_)
              replace hS := (hS.pick (A := rowA 5 1 A117 _ c117 _) (by repeat first | exact .here _ _ | assumption | apply Pick.there)).recast (show _ = rowA 5 1 A117 (m + n116) c117 ((bq ++ enc x.at_.toNat).map bv) from by simp only [List.map_append])
              refine t_q (q_as (.slice _ _ _) rfl) ?_
              refine t_nil ?_
              first
                | exact ⟨bq ++ enc x.at_.toNat, A117, _, c117, rfl, (by rw [List.length_append]; omega), (by rw [List.length_append]; omega), (by rw [hbq, e13]), ((hS.pick (A := blkA g1 49 [.int .i64 x.kind, .int .u64 x.client, .int .u64 x.req, .int .i64 x.account, .int .u64 x.id, .int .i64 x.side, .int .i64 x.typ, .int .i64 x.asset, .int .i64 x.price, .int .i64 x.qty, .int .i64 x.version, .int .i64 x.replica, .int .u64 x.at_, .int .i64 x.rules.version, .slice x.rules.ticks.A x.rules.ticks.l.length x.rules.ticks.c, .int .i64 x.rules.lot, .int .i64 x.rules.band, .slice x.rules.fees.A x.rules.fees.l.length x.rules.fees.c, .int .i64 x.rules.round, .int .i64 x.rules.priority, .int .i64 x.rules.self, .int .i64 x.rules.layout]) (by repeat first | exact .here _ _ | assumption | apply Pick.there)).pick (A := rowA 5 1 A117 _ c117 _) (by repeat first | exact .here _ _ | assumption | apply Pick.there)).front2⟩
                | exact ⟨bq, Aq, _, cq, rfl, (by omega), (by omega), (by rw [hbq, e13, List.append_nil]), ((hS.pick (A := blkA g1 49 [.int .i64 x.kind, .int .u64 x.client, .int .u64 x.req, .int .i64 x.account, .int .u64 x.id, .int .i64 x.side, .int .i64 x.typ, .int .i64 x.asset, .int .i64 x.price, .int .i64 x.qty, .int .i64 x.version, .int .i64 x.replica, .int .u64 x.at_, .int .i64 x.rules.version, .slice x.rules.ticks.A x.rules.ticks.l.length x.rules.ticks.c, .int .i64 x.rules.lot, .int .i64 x.rules.band, .slice x.rules.fees.A x.rules.fees.l.length x.rules.fees.c, .int .i64 x.rules.round, .int .i64 x.rules.priority, .int .i64 x.rules.self, .int .i64 x.rules.layout]) (by repeat first | exact .here _ _ | assumption | apply Pick.there)).pick (A := rowA 5 1 Aq _ cq _) (by repeat first | exact .here _ _ | assumption | apply Pick.there)).front2⟩
            · intro hc43
              have hc43d := of_decide_eq_false hc43
              have e13 : cT13 x = [] := by unfold cT13; exact if_neg (by omega)
              refine c_skip ?_
              first
                | exact ⟨bq ++ enc x.at_.toNat, A117, _, c117, rfl, (by rw [List.length_append]; omega), (by rw [List.length_append]; omega), (by rw [hbq, e13]), ((hS.pick (A := blkA g1 49 [.int .i64 x.kind, .int .u64 x.client, .int .u64 x.req, .int .i64 x.account, .int .u64 x.id, .int .i64 x.side, .int .i64 x.typ, .int .i64 x.asset, .int .i64 x.price, .int .i64 x.qty, .int .i64 x.version, .int .i64 x.replica, .int .u64 x.at_, .int .i64 x.rules.version, .slice x.rules.ticks.A x.rules.ticks.l.length x.rules.ticks.c, .int .i64 x.rules.lot, .int .i64 x.rules.band, .slice x.rules.fees.A x.rules.fees.l.length x.rules.fees.c, .int .i64 x.rules.round, .int .i64 x.rules.priority, .int .i64 x.rules.self, .int .i64 x.rules.layout]) (by repeat first | exact .here _ _ | assumption | apply Pick.there)).pick (A := rowA 5 1 A117 _ c117 _) (by repeat first | exact .here _ _ | assumption | apply Pick.there)).front2⟩
                | exact ⟨bq, Aq, _, cq, rfl, (by omega), (by omega), (by rw [hbq, e13, List.append_nil]), ((hS.pick (A := blkA g1 49 [.int .i64 x.kind, .int .u64 x.client, .int .u64 x.req, .int .i64 x.account, .int .u64 x.id, .int .i64 x.side, .int .i64 x.typ, .int .i64 x.asset, .int .i64 x.price, .int .i64 x.qty, .int .i64 x.version, .int .i64 x.replica, .int .u64 x.at_, .int .i64 x.rules.version, .slice x.rules.ticks.A x.rules.ticks.l.length x.rules.ticks.c, .int .i64 x.rules.lot, .int .i64 x.rules.band, .slice x.rules.fees.A x.rules.fees.l.length x.rules.fees.c, .int .i64 x.rules.round, .int .i64 x.rules.priority, .int .i64 x.rules.self, .int .i64 x.rules.layout]) (by repeat first | exact .here _ _ | assumption | apply Pick.there)).pick (A := rowA 5 1 Aq _ cq _) (by repeat first | exact .here _ _ | assumption | apply Pick.there)).front2⟩
          ·
            rintro σ w ⟨bq, Aq, m, cq, h4, hm, hml, hbq, hS⟩
            refine c_know 4 h4 ?_
            refine c_seq ?_
            refine c_seq ?_
            refine c_region ?_
            refine t_q (q_mv (.slice _ _ _) rfl) ?_
            refine t_q (q_len_slice Try.runUnderlying74 rfl) ?_
            refine t_q (q_gtr rfl rfl) ?_
            refine t_nil ?_
            refine c_cond rfl ?_ ?_
            · intro hc46
              have hc46d := of_decide_eq_true hc46
              obtain ⟨e1, e2⟩ := cbE_big hsy (by rw [hbq]; omega)
              refine c_seq ?_
              refine c_region ?_
              refine t_q (q_assign) ?_
              refine t_q (q_assign) ?_
              refine t_nil ?_
              refine c_ret ?_
              refine r_two rfl rfl rfl ?_
              rw [e1, e2]
              first
                | exact ⟨none, 0, rfl, hS.nil.nilrow 5 1⟩
                | (rw [hbq, ← hm]; exact ⟨Aq, cq, rfl, ((hS.pick (A := rowA 5 1 Aq _ cq _) (by repeat first | exact .here _ _ | assumption | apply Pick.there))).front1⟩)
            · intro hc46
              have hc46d := of_decide_eq_false hc46
              obtain ⟨e1, e2⟩ := cbE_ok hsy (by rw [hbq]; omega)
              refine c_skip ?_
              refine c_seq ?_
              refine c_region ?_
              refine t_q (q_mv (.slice _ _ _) rfl) ?_
              refine t_q (q_as (.slice _ _ _) rfl) ?_
              refine t_q (q_assign) ?_
              refine t_nil ?_
              refine c_ret ?_
              refine r_two rfl rfl rfl ?_
              rw [e1, e2]
              first
                | exact ⟨none, 0, rfl, hS.nil.nilrow 5 1⟩
                | (rw [hbq, ← hm]; exact ⟨Aq, cq, rfl, ((hS.pick (A := rowA 5 1 Aq _ cq _) (by repeat first | exact .here _ _ | assumption | apply Pick.there))).front1⟩)
end Go.Proofs.Ytmgobaojioaioaa
