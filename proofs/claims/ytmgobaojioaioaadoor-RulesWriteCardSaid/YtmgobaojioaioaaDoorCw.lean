/- The codec's writer and reader, and the reference's: what each call of them does. -/
import Derived.Test.YtmgobaojioaioaaDoorW4
import Derived.Test.YtmgobaojioaioaaDoorEnc
import Derived.Test.YtmgobaojioaioaaDoorProg
namespace Go.Proofs.YtmgobaojioaioaaDoor
open Go Go.RowKit Go.Lib
def wrA (g : Nat) (bs : List UInt8) : Asn := exA fun A => exA fun c => starA (blkA g 46 [.slice A bs.length c]) (rowA 5 1 A bs.length c (bs.map bv))
theorem St.wr {W w : World} {R : List Asn} {g : Nat} {bs : List UInt8} (h : St W w (wrA g bs :: R)) : ∃ A c, St W w (blkA g 46 [.slice A bs.length c] :: rowA 5 1 A bs.length c (bs.map bv) :: R) := by
  obtain ⟨A, h⟩ := h.ex
  obtain ⟨c, h⟩ := h.ex
  exact ⟨A, c, h.star⟩
theorem St.unwr {W w : World} {R : List Asn} {g n : Nat} {A : Option Addr} {c : Nat} {bs : List UInt8} {v : Value} {xs : List Value} (h : St W w (blkA g 46 [v] :: rowA 5 1 A n c xs :: R)) (hn : n = bs.length) (hv : v = .slice A n c) (hx : xs = bs.map bv) : St W w (wrA g bs :: R) := by
  subst hn hv hx
  exact St.unex A (St.unex c h.unstar)
theorem St.wr0 {W w : World} {R : List Asn} {g : Nat} (h : St W w (blkA g 46 [.slice none 0 0] :: R)) : St W w (wrA g [] :: R) := ((h.nilrow 5 1).pick (.there (.here _ _))).unwr rfl rfl rfl
def rdrA (W : World) (t : TypeId) (g : Nat) (s : Rs) : Asn := exA fun A => exA fun c => pureA (RdB W A s.left ∧ s.left.length ≤ c ∧ s.left.length ≤ 9223372036854775807) (blkA g t [.slice A s.left.length c, .bool s.bad])
theorem St.rdr {V W w : World} {R : List Asn} {t g : Nat} {s : Rs} (h : St W w (rdrA V t g s :: R)) : ∃ A c, RdB V A s.left ∧ (s.left.length ≤ c ∧ s.left.length ≤ 9223372036854775807) ∧ St W w (blkA g t [.slice A s.left.length c, .bool s.bad] :: R) := by
  obtain ⟨A, h⟩ := h.ex
  obtain ⟨c, h⟩ := h.ex
  obtain ⟨⟨h1, h2⟩, h⟩ := h.pure
  exact ⟨A, c, h1, h2, h⟩
theorem St.unrdr {V W w : World} {R : List Asn} {t g n : Nat} {A : Option Addr} {c : Nat} {s : Rs} {b : Bool} (h : St W w (blkA g t [.slice A n c, .bool b] :: R)) (hn : n = s.left.length) (hb : b = s.bad) (hR : RdB V A s.left) (hc : s.left.length ≤ c ∧ s.left.length ≤ 9223372036854775807) : St W w (rdrA V t g s :: R) := by
  subst hn hb
  exact St.unex A (St.unex c (St.unpure ⟨hR, hc⟩ h))
theorem St.unrdr0 {V W w : World} {R : List Asn} {t g : Nat} (s : Rs) (h : St W w (blkA g t [.slice none 0 0, .bool true] :: R)) : St W w (rdrA V t g s.fail :: R) := h.unrdr rfl rfl (Rd.none_ _ _ _ _) ⟨Nat.le_refl _, Nat.zero_le _⟩
variable {W : World}
set_option maxRecDepth 100000 in
theorem nat_calls {w : World} {L R : List Asn} {g : Nat} {bs : List UInt8} {n : Int} (hS : St W w L) (pk : Pick L (wrA g bs) R) (h0 : 0 ≤ n) (h1 : n < 18446744073709551616) (hb : bs.length ≤ 70368744177664) :
  Calls Tryd.prog 76 #[.pointer (some ⟨g, 0, none⟩), .int .u64 n] w fun e w' => e = .returned (.tuple #[]) ∧ St W w' (wrA g (bs ++ enc n.toNat) :: R) := by
  replace hS := hS.pick pk
  clear pk
  have hten := enc_ten (n := n.toNat) (by omega)
  refine calls_of_wpE (args := [_, _]) Tryd.func76 rfl rfl rfl ?_
  refine c_seq ?_
  refine c_block ?_
  refine c_loop [1, 4, 5, 6, 7, 8, 9, 10, 11, 12, 13, 14, 15, 16, 17, 18, 19] (fun k σ w => ∃ (m : Int) (bs' : List UInt8), σ 1 = .int .u64 m ∧ 0 ≤ m ∧ m < 18446744073709551616 ∧ m.toNat ≤ k ∧ bs' ++ enc m.toNat = bs ++ enc n.toNat ∧ St W w (wrA g bs' :: R)) (n.toNat) rfl (⟨n, bs, rfl, h0, h1, Nat.le_refl _, rfl, hS⟩) ?_
  skip
  rintro k σ w ⟨m, bs', h1', hm0, hm1, hk, hbs, hS⟩
  refine c_know 1 h1' ?_
  clear h1'
  have hlen := congrArg List.length hbs
  simp only [List.length_append] at hlen
  obtain ⟨A, c, hS⟩ := hS.wr
  refine c_seq ?_
  refine c_seq ?_
  refine c_region ?_
  refine t_q (q_mv (.int _ _) rfl) ?_
  refine t_q (q_geq rfl rfl) ?_
  refine t_nil ?_
  refine c_cond rfl ?_ ?_
  · intro hc2
    have hc2d := of_decide_eq_true hc2
    refine c_skip ?_
    refine c_seq ?_
    refine c_block ?_
    refine c_region ?_
    refine t_q (q_mv (.pointer _) rfl) ?_
    refine t_q (q_mv (.pointer _) rfl) ?_
    refine t_q (q_nilCheck rfl) ?_
    refine t_q (q_fieldAddr 0 Tryd.runUnderlying46 rfl Tryd.sizeOf43 (by decide) rfl rfl) ?_
    refine t_q (q_load1 Tryd.isAgg43 rfl (hS.cell (by repeat first | exact .here _ _ | assumption | apply Pick.there) rfl)) ?_
    refine t_q (q_mv (.int _ _) rfl) ?_
    first | refine t_q (q_conv_u8 Tryd.runUnderlying89 Tryd.runUnderlying5 rfl (by omega)) ?_ | refine t_q (q_convm_u8 Tryd.runUnderlying89 Tryd.runUnderlying5 rfl) ?_
    refine t_q (q_cast (v' := .int .u8 (m % 128 + 128)) (q_or_u8 rfl rfl (by omega) (by omega)) (by
      have h := or128 m.toNat
      rw [show (m % 256).toNat = m.toNat % 256 from by omega]
      show Value.int .u8 ((m.toNat % 256 ||| 128 : Nat) : Int) = _
      rw [h]; congr 1; omega)) ?_
    refine t_build_bytes [_] Tryd.runUnderlying43 Tryd.sizeOf5 Tryd.zeroValue5 rfl rfl (by simp; try omega) (by decide) hS (fun g16 w hS => ?_)
    refine t_append_own (size := 1) (bytes := 1) Tryd.underlying43 (info_of Tryd.type5) rfl rfl rfl rfl (by decide) hS (by repeat first | exact .here _ _ | assumption | apply Pick.there) (by repeat first | exact .here _ _ | assumption | apply Pick.there) rfl rfl (by first | exact allOne_bv _ | exact allOne_ints _ _ | rfl) (by unfold maxLen; omega) (by omega) (fun A17 c17 w hS => ?_)
    refine t_q (q_nilCheck rfl) ?_
    refine t_q (q_fieldAddr 0 Tryd.runUnderlying46 rfl Tryd.sizeOf43 (by decide) rfl rfl) ?_
    refine t_store (v := (.slice _ _ _)) Tryd.sizeOf43 hS (by repeat first | exact .here _ _ | assumption | apply Pick.there) rfl rfl rfl rfl rfl rfl (fun w hS => ?_)
    refine t_nil ?_
    refine c_region ?_
    refine t_q (q_mv (.int _ _) rfl) ?_
    refine t_q (q_shr_n (D := 128) rfl rfl (by decide) (by decide) (by decide)) ?_
    refine t_q (q_as (.int _ _) rfl) ?_
    refine t_nil ?_
    refine ⟨(m / 128).toNat, by omega, m / 128, bs' ++ [UInt8.ofNat (m.toNat % 128 + 128)], rfl, by omega, by omega, Nat.le_refl _, ?_, hS.unwr (by simp) rfl ?_⟩
    · rw [← hbs, enc_big (n := m.toNat) (by omega), show (m / 128).toNat = m.toNat / 128 from by omega]
      simp
    · simp only [List.map_append, List.map_cons, List.map_nil, bvi]
      congr 4
      omega
  · intro hc2
    have hc2d := of_decide_eq_false hc2
    refine c_exit ?_
    refine ite_t rfl ?_
    refine c_region ?_
    refine t_q (q_mv (.pointer _) rfl) ?_
    refine t_q (q_mv (.pointer _) rfl) ?_
    refine t_q (q_nilCheck rfl) ?_
    refine t_q (q_fieldAddr 0 Tryd.runUnderlying46 rfl Tryd.sizeOf43 (by decide) rfl rfl) ?_
    refine t_q (q_load1 Tryd.isAgg43 rfl (hS.cell (by repeat first | exact .here _ _ | assumption | apply Pick.there) rfl)) ?_
    refine t_q (q_mv (.int _ _) rfl) ?_
    first | refine t_q (q_conv_u8 Tryd.runUnderlying89 Tryd.runUnderlying5 rfl (by omega)) ?_ | refine t_q (q_convm_u8 Tryd.runUnderlying89 Tryd.runUnderlying5 rfl) ?_
    refine t_build_bytes [_] Tryd.runUnderlying43 Tryd.sizeOf5 Tryd.zeroValue5 rfl rfl (by simp; try omega) (by decide) hS (fun g27 w hS => ?_)
    refine t_append_own (size := 1) (bytes := 1) Tryd.underlying43 (info_of Tryd.type5) rfl rfl rfl rfl (by decide) hS (by repeat first | exact .here _ _ | assumption | apply Pick.there) (by repeat first | exact .here _ _ | assumption | apply Pick.there) rfl rfl (by first | exact allOne_bv _ | exact allOne_ints _ _ | rfl) (by unfold maxLen; omega) (by omega) (fun A28 c28 w hS => ?_)
    refine t_q (q_nilCheck rfl) ?_
    refine t_q (q_fieldAddr 0 Tryd.runUnderlying46 rfl Tryd.sizeOf43 (by decide) rfl rfl) ?_
    refine t_store (v := (.slice _ _ _)) Tryd.sizeOf43 hS (by repeat first | exact .here _ _ | assumption | apply Pick.there) rfl rfl rfl rfl rfl rfl (fun w hS => ?_)
    refine t_nil ?_
    refine r_none rfl  ?_
    refine ⟨rfl, ?_⟩
    rw [enc_small (n := m.toNat) (by omega)] at hbs
    rw [← hbs]
    refine hS.unwr (by simp) rfl ?_
    simp only [List.map_append, List.map_cons, List.map_nil, bvi]
def encs (ns : List Int) : List UInt8 := ns.flatMap fun n => enc n.toNat
theorem encs_length {ns : List Int} (h : ∀ n ∈ ns, 0 ≤ n ∧ n < 18446744073709551616) : (encs ns).length ≤ 10 * ns.length := by
  induction ns with
  | nil => simp [encs]
  | cons n ns ih =>
    have h1 := enc_ten (n := n.toNat) (by have := h n List.mem_cons_self; omega)
    have h2 := ih fun m hm => h m (List.mem_cons_of_mem _ hm)
    simp only [encs, List.flatMap_cons, List.length_append, List.length_cons] at h2 ⊢
    omega
theorem encs_snoc {ns : List Int} {j : Nat} (h : j < ns.length) : encs (ns.take (j + 1)) = encs (ns.take j) ++ enc (ns.getD j 0).toNat := by
  rw [List.take_succ_eq_append_getElem h, encs, List.flatMap_append, List.getD_eq_getElem?_getD, List.getElem?_eq_getElem h]
  simp [encs]
set_option maxRecDepth 100000 in
theorem Nat_calls {w : World} {L R : List Asn} {g : Nat} {bs : List UInt8} {A : Option Addr} {c : Nat} {ns : List Int} (hS : St W w L) (pk : Pick L (wrA g bs) R) (hrd : ∀ w', St W w' R → RdI w' .u64 A ns) (hns : ∀ n ∈ ns, 0 ≤ n ∧ n < 18446744073709551616) (hlen : ns.length ≤ 1000000) (hb : bs.length ≤ 35184372088832) :
  Calls Tryd.prog 52 #[.pointer (some ⟨g, 0, none⟩), .slice A ns.length c] w fun e w' => e = .returned (.tuple #[]) ∧ St W w' (wrA g (bs ++ encs ns) :: R) := by
  replace hS := hS.pick pk
  clear pk
  refine calls_of_wpE (args := [_, _]) Tryd.func52 rfl rfl rfl ?_
  refine c_seq ?_
  refine c_region ?_
  refine t_q (q_mv (.slice _ _ _) rfl) ?_
  refine t_q (q_len_slice Tryd.runUnderlying113 rfl) ?_
  refine t_q (q_move) ?_
  refine t_nil ?_
  refine c_block ?_
  refine c_loop [4, 7, 8, 9, 10, 11, 12, 13, 14, 15, 16, 17, 18] (fun k σ w => ∃ j : Nat, σ 7 = .int .i64 (j : Int) ∧ j ≤ ns.length ∧ ns.length - j ≤ k ∧ St W w (wrA g (bs ++ encs (ns.take j)) :: R)) (ns.length) rfl (⟨0, rfl, by omega, by omega, by simpa [encs] using hS⟩) ?_
  skip
  rintro k σ w ⟨j, h7, hj, hk, hS⟩
  refine c_know 7 h7 ?_
  clear h7
  have hlb := encs_length (ns := ns.take j) (fun n hn => hns n (List.mem_of_mem_take hn))
  rw [List.length_take] at hlb
  refine c_seq ?_
  refine c_region ?_
  refine t_q (q_lss rfl rfl) ?_
  refine t_nil ?_
  refine c_seq ?_
  refine c_cond rfl ?_ ?_
  · intro hc2
    have hc2d := of_decide_eq_true hc2
    have hel : ∀ j : Nat, j < ns.length → 0 ≤ ns.getD j 0 ∧ ns.getD j 0 < 18446744073709551616 := fun j hj => by
      rw [List.getD_eq_getElem?_getD, List.getElem?_eq_getElem hj]
      exact hns _ (List.getElem_mem hj)
    refine c_skip ?_
    refine c_seq ?_
    refine c_block ?_
    refine c_seq ?_
    refine c_region ?_
    refine t_q (q_mv (.int _ _) rfl) ?_
    refine t_q (q_as (.int _ _) rfl) ?_
    refine t_nil ?_
    refine c_seq ?_
    refine c_region ?_
    refine t_q (q_mv (.pointer _) rfl) ?_
    refine t_q (q_neq_ptr_nil Tryd.runUnderlying48 rfl rfl) ?_
    refine t_nil ?_
    refine c_cond_t rfl rfl ?_
    refine c_region ?_
    refine t_q (q_mv (.pointer _) rfl) ?_
    refine t_q (q_mv (.slice _ _ _) rfl) ?_
    refine t_q (q_mv (.int _ _) rfl) ?_
    first | refine t_index_nat Tryd.runUnderlying113 Tryd.sizeOf89 (hrd w hS.drop) rfl rfl (by omega) (fun ad3 hl3 hx3 => ?_) | refine t_index Tryd.runUnderlying113 Tryd.sizeOf89 (hrd w hS.drop) rfl rfl (by omega) (fun ad3 hl3 hx3 => ?_)
    refine t_q (q_load1 Tryd.isAgg89 rfl (hx3 0 _ rfl)) ?_
    refine t_call Tryd.call76 (nat_calls hS (by repeat first | exact .here _ _ | assumption | apply Pick.there) (hel j (by omega)).1 (hel j (by omega)).2 (by rw [List.length_append]; omega)) rfl ?_
    rintro e w ⟨rfl, hS⟩
    refine ⟨_, rfl, ?_⟩
    refine t_nil ?_
    refine c_region ?_
    refine t_q (q_add_i64 rfl rfl (by omega)) ?_
    refine t_q (q_mv (.int _ _) rfl) ?_
    refine t_nil ?_
    exact ⟨k - 1, by omega, j + 1, rfl, by omega, by omega, by rw [encs_snoc (by omega), ← List.append_assoc]; exact hS⟩
  · intro hc2
    have hc2d := of_decide_eq_false hc2
    refine c_exit ?_
    refine ite_t rfl ?_
    refine r_none rfl  ?_
    obtain rfl : j = ns.length := by omega
    rw [List.take_length] at hS
    exact ⟨rfl, hS⟩
theorem encs_one (n : Int) : encs [n] = enc n.toNat := by simp [encs]
def ints (ns : List Int) : List UInt8 := ns.flatMap fun n => enc (zig n)
theorem ints_length {ns : List Int} (h : ∀ n ∈ ns, -9223372036854775808 ≤ n ∧ n ≤ 9223372036854775807) : (ints ns).length ≤ 10 * ns.length := by
  induction ns with
  | nil => simp [ints]
  | cons n ns ih =>
    have h1 := h n List.mem_cons_self
    have h2 := enc_ten (zig_lt h1.1 h1.2)
    have h3 := ih fun m hm => h m (List.mem_cons_of_mem _ hm)
    simp only [ints, List.flatMap_cons, List.length_append, List.length_cons] at h3 ⊢
    omega
theorem ints_snoc {ns : List Int} {j : Nat} (h : j < ns.length) : ints (ns.take (j + 1)) = ints (ns.take j) ++ enc (zig (ns.getD j 0)) := by
  rw [List.take_succ_eq_append_getElem h, ints, List.flatMap_append, List.getD_eq_getElem?_getD, List.getElem?_eq_getElem h]
  simp [ints]
set_option maxRecDepth 100000 in
theorem Int_calls {w : World} {L R : List Asn} {g : Nat} {bs : List UInt8} {A : Option Addr} {c : Nat} {ns : List Int} (hS : St W w L) (pk : Pick L (wrA g bs) R) (hrd : ∀ w', St W w' R → RdI w' .i64 A ns) (hns : ∀ n ∈ ns, -9223372036854775808 ≤ n ∧ n ≤ 9223372036854775807) (hlen : ns.length ≤ 1000000) (hb : bs.length ≤ 17592186044416) :
  Calls Tryd.prog 51 #[.pointer (some ⟨g, 0, none⟩), .slice A ns.length c] w fun e w' => e = .returned (.tuple #[]) ∧ St W w' (wrA g (bs ++ ints ns) :: R) := by
  replace hS := hS.pick pk
  clear pk
  refine calls_of_wpE (args := [_, _]) Tryd.func51 rfl rfl rfl ?_
  refine c_seq ?_
  refine c_region ?_
  refine t_q (q_mv (.slice _ _ _) rfl) ?_
  refine t_q (q_len_slice Tryd.runUnderlying111 rfl) ?_
  refine t_q (q_move) ?_
  refine t_nil ?_
  refine c_block ?_
  refine c_loop [5, 8, 9, 10, 11, 12, 13, 14, 15, 16, 17, 18, 19, 20, 21, 22] (fun k σ w => ∃ j : Nat, σ 8 = .int .i64 (j : Int) ∧ j ≤ ns.length ∧ ns.length - j ≤ k ∧ St W w (wrA g (bs ++ ints (ns.take j)) :: R)) (ns.length) rfl (⟨0, rfl, by omega, by omega, by simpa [ints] using hS⟩) ?_
  skip
  rintro k σ w ⟨j, h8, hj, hk, hS⟩
  refine c_know 8 h8 ?_
  clear h8
  have hlb := ints_length (ns := ns.take j) (fun n hn => hns n (List.mem_of_mem_take hn))
  rw [List.length_take] at hlb
  refine c_seq ?_
  refine c_region ?_
  refine t_q (q_lss rfl rfl) ?_
  refine t_nil ?_
  refine c_seq ?_
  refine c_cond rfl ?_ ?_
  · intro hc2
    have hc2d := of_decide_eq_true hc2
    have hel : -9223372036854775808 ≤ ns.getD j 0 ∧ ns.getD j 0 ≤ 9223372036854775807 := by
      rw [List.getD_eq_getElem?_getD, List.getElem?_eq_getElem (by omega)]
      exact hns _ (List.getElem_mem _)
    refine c_skip ?_
    refine c_seq ?_
    refine c_block ?_
    refine c_seq ?_
    refine c_region ?_
    first | refine t_index_nat Tryd.runUnderlying111 Tryd.sizeOf2 (hrd w hS.drop) rfl rfl (by omega) (fun ad3 hl3 hx3 => ?_) | refine t_index Tryd.runUnderlying111 Tryd.sizeOf2 (hrd w hS.drop) rfl rfl (by omega) (fun ad3 hl3 hx3 => ?_)
    refine t_q (q_cast (v' := .int .i64 (ns.getD j 0)) (q_load1 Tryd.isAgg2 rfl (hx3 0 _ rfl)) (rfl)) ?_
    refine t_q (q_as (.int _ _) rfl) ?_
    refine t_nil ?_
    refine c_region ?_
    refine t_q (q_mv (.pointer _) rfl) ?_
    refine t_q (q_mv (.int _ _) rfl) ?_
    first | refine t_q (q_conv_u64 Tryd.runUnderlying2 Tryd.runUnderlying89 rfl (by omega)) ?_ | refine t_q (q_convm_u64 Tryd.runUnderlying2 Tryd.runUnderlying89 rfl) ?_
    refine t_q (q_shlm_u64 (D := 2) rfl rfl (by decide) (by decide)) ?_
    refine t_q (q_mv (.int _ _) rfl) ?_
    refine t_q (q_shr_n (D := 9223372036854775808) rfl rfl (by decide) (by decide) (by decide)) ?_
    first | refine t_q (q_conv_u64 Tryd.runUnderlying2 Tryd.runUnderlying89 rfl (by omega)) ?_ | refine t_q (q_convm_u64 Tryd.runUnderlying2 Tryd.runUnderlying89 rfl) ?_
    refine t_q (q_cast (v' := .int .u64 ((zig (ns.getD j 0) : Nat) : Int)) (q_xor_u64 rfl rfl (by omega) (by omega)) (by rw [zig_bits hel.1 hel.2])) ?_
    refine t_build_ints [_] Tryd.runUnderlying113 Tryd.sizeOf89 Tryd.zeroValue89 rfl rfl (by decide) hS (fun g20 w hS => ?_)
    refine t_call Tryd.call52 (Nat_calls hS (by repeat first | exact .here _ _ | assumption | apply Pick.there) (fun _ h => h.rowInts (.here _ _) rfl) (by simp; have := zig_lt hel.1 hel.2; rw [List.getD_eq_getElem?_getD] at this; omega) (by simp) (by rw [List.length_append]; omega)) rfl ?_
    rintro e w ⟨rfl, hS⟩
    refine ⟨_, rfl, ?_⟩
    replace hS := hS.swap
    refine t_nil ?_
    refine c_region ?_
    refine t_q (q_add_i64 rfl rfl (by omega)) ?_
    refine t_q (q_mv (.int _ _) rfl) ?_
    refine t_nil ?_
    rw [encs_one, Int.toNat_natCast] at hS
    exact ⟨k - 1, by omega, j + 1, rfl, by omega, by omega, by rw [ints_snoc (by omega), ← List.append_assoc]; exact hS⟩
  · intro hc2
    have hc2d := of_decide_eq_false hc2
    refine c_exit ?_
    refine ite_t rfl ?_
    refine r_none rfl  ?_
    obtain rfl : j = ns.length := by omega
    rw [List.take_length] at hS
    exact ⟨rfl, hS⟩
-- Flag_calls: no such function here
-- Text_calls: no such function here
set_option maxRecDepth 100000 in
theorem Bytes_calls {w : World} {L R : List Asn} {g : Nat} {bs : List UInt8} (hS : St W w L) (pk : Pick L (wrA g bs) R) (hb : bs.length ≤ 70368744177664) :
  Calls Tryd.prog 21 #[.pointer (some ⟨g, 0, none⟩)] w fun e w' => ∃ A c, e = .returned (.slice A bs.length c) ∧ bs.length ≤ c ∧ St W w' (rowA 5 1 A bs.length c (bs.map bv) :: wrA g bs :: R) := by
  replace hS := hS.pick pk
  clear pk
  obtain ⟨A, c, hS⟩ := hS.wr
  replace hS := hS.nilrow 5 1
  refine calls_of_wpE (args := [_]) Tryd.func21 rfl rfl rfl ?_
  refine c_seq ?_
  refine c_region ?_
  refine t_q (q_assign) ?_
  refine t_nil ?_
  refine c_seq ?_
  refine c_seq ?_
  refine c_region ?_
  refine t_q (q_mv (.pointer _) rfl) ?_
  refine t_q (q_eql_ptr_nil Tryd.runUnderlying48 rfl rfl) ?_
  refine t_nil ?_
  refine c_cond_f rfl rfl ?_
  refine c_skip ?_
  refine c_seq ?_
  refine c_region ?_
  refine t_q (q_mv (.pointer _) rfl) ?_
  refine t_q (q_nilCheck rfl) ?_
  refine t_q (q_fieldAddr 0 Tryd.runUnderlying46 rfl Tryd.sizeOf43 (by decide) rfl rfl) ?_
  refine t_q (q_load1 Tryd.isAgg43 rfl (hS.cell (by repeat first | exact .here _ _ | assumption | apply Pick.there) rfl)) ?_
  refine t_append (size := 1) (bytes := 1) Tryd.underlying43 (info_of Tryd.type5) rfl rfl rfl rfl (by decide) hS (by repeat first | exact .here _ _ | assumption | apply Pick.there) (hS.rowRd (.there (.there (.here _ _))) rfl) rfl rfl (fun _ _ => rfl) (by unfold maxLen; omega) (by omega) (fun A9 c9 w hS => ?_)
  refine t_q (q_as (.slice _ _ _) rfl) ?_
  refine t_nil ?_
  refine c_ret ?_
  refine r_one rfl rfl ?_
  simp only [Nat.zero_add, List.nil_append] at hS
  rw [flat_bsf] at hS
  exact ⟨A9, c9, congrArg (fun n => Ending.returned (Value.slice A9 n c9)) (Nat.zero_add _), hS.row_le (.here _ _), (((hS.pick (.there (.there (.here _ _)))).pick (.there (.there (.here _ _)))).unwr rfl rfl rfl).pick (.there (.here _ _))⟩
set_option maxRecDepth 100000 in
theorem rFail {V : World} {w : World} {L R : List Asn} {g : Nat} {s : Rs} (hS : St W w L) (pk : Pick L (rdrA V 93 g s) R) :
  Calls Tryd.prog 58 #[.pointer (some ⟨g, 0, none⟩)] w fun e w' => e = .returned (.tuple #[]) ∧ St W w' (rdrA V 93 g s.fail :: R) := by
  replace hS := hS.pick pk
  clear pk
  obtain ⟨A, c, hR, hc, hS⟩ := hS.rdr
  refine calls_of_wpE (args := [_]) Tryd.func58 rfl rfl rfl ?_
  refine c_seq ?_
  refine c_region ?_
  refine t_q (q_mv (.pointer _) rfl) ?_
  refine t_q (q_neq_ptr_nil Tryd.runUnderlying50 rfl rfl) ?_
  refine t_nil ?_
  refine c_cond_t rfl rfl ?_
  refine c_region ?_
  refine t_q (q_mv (.pointer _) rfl) ?_
  refine t_q (q_mv (.pointer _) rfl) ?_
  refine t_q (q_nilCheck rfl) ?_
  refine t_q (q_fieldAddr 0 Tryd.runUnderlying93 rfl Tryd.sizeOf43 (by decide) rfl rfl) ?_
  refine t_store (v := (.slice _ _ _)) Tryd.sizeOf43 hS (by repeat first | exact .here _ _ | assumption | apply Pick.there) rfl rfl rfl rfl rfl rfl (fun w hS => ?_)
  refine t_q (q_nilCheck rfl) ?_
  refine t_q (q_fieldAddr 1 Tryd.runUnderlying93 rfl Tryd.sizeOf4 (by decide) rfl rfl) ?_
  refine t_store (v := (.bool _)) Tryd.sizeOf4 hS (by repeat first | exact .here _ _ | assumption | apply Pick.there) rfl rfl rfl rfl rfl rfl (fun w hS => ?_)
  refine t_nil ?_
  refine r_none rfl  ?_
  exact ⟨rfl, St.unrdr0 s hS⟩
set_option maxRecDepth 100000 in
theorem Open_calls {w : World} {L : List Asn} {A : Option Addr} {c : Nat} {bs : List UInt8} (hS : St W w L) (hR : RdB W A bs) (hc : bs.length ≤ c ∧ bs.length ≤ 9223372036854775807) :
  Calls Tryd.prog 22 #[.slice A bs.length c] w fun e w' => ∃ g, e = .returned (.pointer (some ⟨g, 0, none⟩)) ∧ St W w' (rdrA W 93 g ⟨bs, false⟩ :: L) := by
  refine calls_of_wpE (args := [_]) Tryd.func22 rfl rfl rfl ?_
  refine c_seq ?_
  refine c_region ?_
  refine t_q (q_assign) ?_
  refine t_nil ?_
  refine c_seq ?_
  refine c_region ?_
  refine t_q (q_mv (.slice _ _ _) rfl) ?_
  refine t_q (q_build (qs := [(0, 1), (1, 1)]) [(.slice _ _ _), (.bool _)] Tryd.zeroValue93 Tryd.runUnderlying93 ⟨rfl, Tryd.sizeOf43, rfl, Tryd.sizeOf4, trivial⟩ rfl rfl) ?_
  refine t_box (v := (.agg _)) rfl rfl hS (fun g5 w hS => ?_)
  refine t_q (q_as (.pointer _) rfl) ?_
  refine t_nil ?_
  refine c_ret ?_
  refine r_one rfl rfl ?_
  exact ⟨_, rfl, hS.unrdr rfl rfl hR hc⟩
set_option maxRecDepth 100000 in
theorem rLeft {V : World} {w : World} {L R : List Asn} {g : Nat} {s : Rs} (hS : St W w L) (pk : Pick L (rdrA V 93 g s) R) :
  Calls Tryd.prog 26 #[.pointer (some ⟨g, 0, none⟩)] w fun e w' => e = .returned (.int .i64 (s.left.length : Int)) ∧ St W w' (rdrA V 93 g s :: R) := by
  replace hS := hS.pick pk
  clear pk
  obtain ⟨A, c, hR, hc, hS⟩ := hS.rdr
  refine calls_of_wpE (args := [_]) Tryd.func26 rfl rfl rfl ?_
  refine c_seq ?_
  refine c_region ?_
  refine t_q (q_assign) ?_
  refine t_nil ?_
  refine c_seq ?_
  refine c_seq ?_
  refine c_region ?_
  refine t_q (q_mv (.pointer _) rfl) ?_
  refine t_q (q_eql_ptr_nil Tryd.runUnderlying50 rfl rfl) ?_
  refine t_nil ?_
  refine c_cond_f rfl rfl ?_
  refine c_skip ?_
  refine c_seq ?_
  refine c_region ?_
  refine t_q (q_mv (.pointer _) rfl) ?_
  refine t_q (q_nilCheck rfl) ?_
  refine t_q (q_fieldAddr 0 Tryd.runUnderlying93 rfl Tryd.sizeOf43 (by decide) rfl rfl) ?_
  refine t_q (q_load1 Tryd.isAgg43 rfl (hS.cell (by repeat first | exact .here _ _ | assumption | apply Pick.there) rfl)) ?_
  refine t_q (q_len_slice Tryd.runUnderlying43 rfl) ?_
  refine t_q (q_as (.int _ _) rfl) ?_
  refine t_nil ?_
  refine c_ret ?_
  refine r_one rfl rfl ?_
  exact ⟨rfl, hS.unrdr rfl rfl hR hc⟩
set_option maxRecDepth 100000 in
theorem rBad {V : World} {w : World} {L R : List Asn} {g : Nat} {s : Rs} (hS : St W w L) (pk : Pick L (rdrA V 93 g s) R) :
  Calls Tryd.prog 25 #[.pointer (some ⟨g, 0, none⟩)] w fun e w' => e = .returned (.bool s.bad) ∧ St W w' (rdrA V 93 g s :: R) := by
  replace hS := hS.pick pk
  clear pk
  obtain ⟨A, c, hR, hc, hS⟩ := hS.rdr
  refine calls_of_wpE (args := [_]) Tryd.func25 rfl rfl rfl ?_
  refine c_seq ?_
  refine c_region ?_
  refine t_q (q_assign) ?_
  refine t_nil ?_
  refine c_seq ?_
  refine c_region ?_
  refine t_q (q_mv (.pointer _) rfl) ?_
  refine t_q (q_neq_ptr_nil Tryd.runUnderlying50 rfl rfl) ?_
  refine t_q (q_mv (.bool _) rfl) ?_
  refine t_yes rfl rfl rfl ?_
  refine t_q (q_mv (.pointer _) rfl) ?_
  refine t_yes rfl rfl rfl ?_
  refine t_q (q_nilCheck rfl) ?_
  refine t_yes rfl rfl rfl ?_
  refine t_q (q_fieldAddr 1 Tryd.runUnderlying93 rfl Tryd.sizeOf4 (by decide) rfl rfl) ?_
  refine t_yes rfl rfl rfl ?_
  refine t_q (q_load1 Tryd.isAgg4 rfl (hS.cell (by repeat first | exact .here _ _ | assumption | apply Pick.there) rfl)) ?_
  refine t_q (q_pick_t rfl rfl) ?_
  refine t_q (q_as (.bool _) rfl) ?_
  refine t_nil ?_
  refine c_ret ?_
  refine r_one rfl rfl ?_
  exact ⟨rfl, hS.unrdr rfl rfl hR hc⟩
-- rEnd: no such function here
-- qEnd: no such function here
end Go.Proofs.YtmgobaojioaioaaDoor
