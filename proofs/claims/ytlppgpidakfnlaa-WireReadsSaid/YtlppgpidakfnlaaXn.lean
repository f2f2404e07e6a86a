/- Messages read from bytes. -/
import Derived.Test.YtlppgpidakfnlaaXs
namespace Go.Proofs.Ytlppgpidakfnlaa
open Go Go.RowKit Go.Lib
variable {W : World}
theorem rm0 {w : World} {L R : List Asn} {g : Nat} {s : Rs} (hS : St W w L) (pk : Pick L (rdrA W 197 g s) R) : Calls Try.prog 82 #[.pointer (some ⟨g, 0, none⟩), .int .u64 8] w fun e w' => e = .returned (.int .u64 ((m0 s).1 : Int)) ∧ St W w' (rdrA W 197 g (m0 s).2 :: R) := rNat (most := 8) hS pk (by decide) (by decide)
theorem rm1 {w : World} {L R : List Asn} {g : Nat} {s : Rs} (hS : St W w L) (pk : Pick L (rdrA W 197 g (m0 s).2) R) : Calls Try.prog 82 #[.pointer (some ⟨g, 0, none⟩), .int .u64 15] w fun e w' => e = .returned (.int .u64 ((m1 s).1 : Int)) ∧ St W w' (rdrA W 197 g (m1 s).2 :: R) := rNat (most := 15) hS pk (by decide) (by decide)
theorem rm2 {w : World} {L R : List Asn} {g : Nat} {s : Rs} (hS : St W w L) (pk : Pick L (rdrA W 197 g (m1 s).2) R) : Calls Try.prog 82 #[.pointer (some ⟨g, 0, none⟩), .int .u64 15] w fun e w' => e = .returned (.int .u64 ((m2 s).1 : Int)) ∧ St W w' (rdrA W 197 g (m2 s).2 :: R) := rNat (most := 15) hS pk (by decide) (by decide)
theorem rm3 {w : World} {L R : List Asn} {g : Nat} {s : Rs} (hS : St W w L) (pk : Pick L (rdrA W 197 g (m2 s).2) R) : Calls Try.prog 82 #[.pointer (some ⟨g, 0, none⟩), .int .u64 4611686018427387904] w fun e w' => e = .returned (.int .u64 ((m3 s).1 : Int)) ∧ St W w' (rdrA W 197 g (m3 s).2 :: R) := rNat (most := 4611686018427387904) hS pk (by decide) (by decide)
theorem ren1 {w : World} {L R : List Asn} {g : Nat} {s : Rs} (hS : St W w L) (pk : Pick L (rdrA W 197 g s) R) : Calls Try.prog 82 #[.pointer (some ⟨g, 0, none⟩), .int .u64 4611686018427387904] w fun e w' => e = .returned (.int .u64 ((en1 s).1 : Int)) ∧ St W w' (rdrA W 197 g (en1 s).2 :: R) := rNat (most := 4611686018427387904) hS pk (by decide) (by decide)
theorem ren2 {w : World} {L R : List Asn} {g : Nat} {s : Rs} (hS : St W w L) (pk : Pick L (rdrA W 197 g (en1 s).2) R) : Calls Try.prog 82 #[.pointer (some ⟨g, 0, none⟩), .int .u64 4611686018427387904] w fun e w' => e = .returned (.int .u64 ((en2 s).1 : Int)) ∧ St W w' (rdrA W 197 g (en2 s).2 :: R) := rNat (most := 4611686018427387904) hS pk (by decide) (by decide)
theorem ren3 {w : World} {L R : List Asn} {g : Nat} {s : Rs} (hS : St W w L) (pk : Pick L (rdrA W 197 g (en2 s).2) R) : Calls Try.prog 118 #[.pointer (some ⟨g, 0, none⟩), .int .i64 512] w fun e w' => e = .returned (.string ⟨(en3 s).1.toArray⟩) ∧ St W w' (rdrA W 197 g (en3 s).2 :: R) := rText (most := 512) hS pk (by decide)
theorem rm10 {w : World} {L R : List Asn} {g : Nat} {s : Rs} (h : hasF (mv s) 32 = true) (hS : St W w L) (pk : Pick L (rdrA W 197 g (m9 s).2) R) : Calls Try.prog 118 #[.pointer (some ⟨g, 0, none⟩), .int .i64 524288] w fun e w' => e = .returned (.string ⟨(m10 s).1.toArray⟩) ∧ St W w' (rdrA W 197 g (m10 s).2 :: R) := by
  have e : m10 s = (m9 s).2.text 524288 := by unfold m10 oqT; rw [h]; rfl
  rw [e]
  exact rText (most := 524288) hS pk (by decide)
def ceA (g t : Nat) (s0 : Rs) (a b c : Int) (ok : Bool) (es bd : Value) (p q : Int) (ev : Value) : Asn := blkA g t [.int .i64 ((m0 s0).1 : Int), .int .i64 ((m1 s0).1 : Int), .int .i64 ((m2 s0).1 : Int), .int .u64 ((m3 s0).1 : Int), .int .u64 a, .int .u64 b, .int .u64 c, .bool ok, es, bd, .int .u64 p, .int .u64 q, ev]
def kA (g : Nat) (s0 : Rs) (es : Sl EntV) : Asn := blkA g 114 [.int .i64 ((m0 s0).1 : Int), .int .i64 ((m1 s0).1 : Int), .int .i64 ((m2 s0).1 : Int), .int .u64 ((m3 s0).1 : Int), .int .u64 ((m5 s0).1 : Int), .int .u64 ((m6 s0).1 : Int), .int .u64 ((m7 s0).1 : Int), .bool (decide ((m4 s0).1 = 1)), .slice es.A es.l.length es.c, .slice none 0 0, .int .u64 0, .int .u64 0, .slice none 0 0]
attribute [local irreducible] blkA rowA rdrA rdsA
set_option maxRecDepth 100000 in
theorem rnum_no {w : World} {L R : List Asn} {g8 g6 : Nat} {v : Int} {m : Nat} {n : Int} (h : decide (IntKind.i64.wrap (BitVec.ofInt IntKind.i64.bits v &&& BitVec.ofInt IntKind.i64.bits ((m : Nat) : Int)).toNat = 0) = true) (hS : St W w L) (pk : Pick L (blkA g8 3 [.int .i64 v]) R) : Calls Try.prog 117 #[.int .i64 ((m : Nat) : Int), .int .u64 n, .pointer (some ⟨g8, 0, none⟩), .pointer (some ⟨g6, 0, none⟩)] w fun e w' => e = .returned (.int .u64 0) ∧ St W w' (blkA g8 3 [.int .i64 v] :: R) := by
 replace hS := hS.pick pk
 clear pk
 refine calls_of_wpE (args := [_, _, _, _]) Try.func117 rfl rfl rfl ?_
 refine c_seq (c_region ?_)
 refine t_q (q_assign) ?_
 refine t_nil (c_seq (c_seq (c_region ?_)))
 refine t_q (q_load1 Try.isAgg3 rfl (hS.cell (by repeat constructor) rfl)) ?_
 refine t_q (q_mv (.int _ _) rfl) ?_
 refine t_q (q_and rfl rfl) ?_
 refine t_q (q_eql rfl rfl) ?_
 refine t_nil ?_
 refine c_cond_t rfl h ?_
 refine c_seq (c_region ?_)
 refine t_q (q_assign) ?_
 refine t_nil (c_ret ?_)
 refine r_one rfl rfl ?_
 exact ⟨rfl, hS⟩
set_option maxRecDepth 100000 in
theorem rnum_yes {V w : World} {R : List Asn} {g g8 g6 : Nat} {v : Int} {m most : Nat} {s : Rs} (h : decide (IntKind.i64.wrap (BitVec.ofInt IntKind.i64.bits v &&& BitVec.ofInt IntKind.i64.bits ((m : Nat) : Int)).toNat = 0) = false) (hS : St V w (rdrA V 197 g s :: blkA g6 150 [.pointer (some ⟨g, 0, none⟩)] :: blkA g8 3 [.int .i64 v] :: R)) (hm : most < 18446744073709551616) : Calls Try.prog 117 #[.int .i64 ((m : Nat) : Int), .int .u64 ((most : Nat) : Int), .pointer (some ⟨g8, 0, none⟩), .pointer (some ⟨g6, 0, none⟩)] w fun e w' => e = .returned (.int .u64 ((s.nat most).1 : Int)) ∧ St V w' (rdrA V 197 g (s.nat most).2 :: blkA g6 150 [.pointer (some ⟨g, 0, none⟩)] :: blkA g8 3 [.int .i64 v] :: R) := by
 refine calls_of_wpE (args := [_, _, _, _]) Try.func117 rfl rfl rfl ?_
 refine c_seq (c_region ?_)
 refine t_q (q_assign) ?_
 refine t_nil (c_seq (c_seq (c_region ?_)))
 refine t_q (q_load1 Try.isAgg3 rfl (hS.cell (by repeat constructor) rfl)) ?_
 refine t_q (q_mv (.int _ _) rfl) ?_
 refine t_q (q_and rfl rfl) ?_
 refine t_q (q_eql rfl rfl) ?_
 refine t_nil ?_
 refine c_cond_f rfl h ?_
 refine c_skip (c_seq (c_region ?_))
 refine t_q (q_load1 Try.isAgg150 rfl (hS.cell (by repeat constructor) rfl)) ?_
 refine t_q (q_mv (.int _ _) rfl) ?_
 refine t_call Try.call82 (rNat (s := s) (most := ((most : Nat) : Int)) hS (by repeat constructor) (by omega) (by omega)) rfl ?_
 rintro e w ⟨rfl, hS⟩
 refine ⟨_, rfl, ?_⟩
 refine t_q (q_as (.int _ _) rfl) ?_
 refine t_nil (c_ret ?_)
 refine r_one rfl rfl ?_
 exact ⟨rfl, hS⟩
theorem rnum_calls {w : World} {R : List Asn} {g g8 g6 : Nat} {v : Int} {m most : Nat} {s : Rs} (h : decide (IntKind.i64.wrap (BitVec.ofInt IntKind.i64.bits v &&& BitVec.ofInt IntKind.i64.bits ((m : Nat) : Int)).toNat = 0) = !hasF v m) (hS : St W w (rdrA W 197 g s :: blkA g6 150 [.pointer (some ⟨g, 0, none⟩)] :: blkA g8 3 [.int .i64 v] :: R)) (hm : most < 18446744073709551616) : Calls Try.prog 117 #[.int .i64 ((m : Nat) : Int), .int .u64 ((most : Nat) : Int), .pointer (some ⟨g8, 0, none⟩), .pointer (some ⟨g6, 0, none⟩)] w fun e w' => e = .returned (.int .u64 ((oqN v m most s).1 : Int)) ∧ St W w' (rdrA W 197 g (oqN v m most s).2 :: blkA g6 150 [.pointer (some ⟨g, 0, none⟩)] :: blkA g8 3 [.int .i64 v] :: R) := by
  cases hb : hasF v m with
  | true =>
    have e : oqN v m most s = s.nat most := by unfold oqN; rw [hb]; rfl
    rw [hb] at h
    rw [e]
    exact rnum_yes h hS hm
  | false =>
    have e : oqN v m most s = (0, s) := by unfold oqN; rw [hb]; rfl
    rw [hb] at h
    rw [e]
    refine (rnum_no h hS (by repeat constructor)).mono fun e w' hh => ?_
    obtain ⟨rfl, hT⟩ := hh
    exact ⟨rfl, (((hT.pick (A := blkA g8 3 [.int .i64 v]) (by repeat constructor)).pick (A := blkA g6 150 [.pointer (some ⟨g, 0, none⟩)]) (by repeat constructor)).pick (A := rdrA W 197 g _) (by repeat constructor))⟩
theorem and_fl_1 (n : Int) : decide (IntKind.i64.wrap (BitVec.ofInt IntKind.i64.bits (fl n) &&& BitVec.ofInt IntKind.i64.bits ((1 : Nat) : Int)).toNat = 0) = !hasF (fl n) 1 := by
  rcases fl_some n with ⟨_, h⟩ | ⟨_, h⟩ | ⟨_, h⟩ | ⟨_, h⟩ | ⟨_, h⟩ | ⟨_, h⟩ | ⟨_, h⟩ | ⟨_, h⟩ | ⟨_, h⟩ <;> rw [h] <;> decide
theorem and_fl_2 (n : Int) : decide (IntKind.i64.wrap (BitVec.ofInt IntKind.i64.bits (fl n) &&& BitVec.ofInt IntKind.i64.bits ((2 : Nat) : Int)).toNat = 0) = !hasF (fl n) 2 := by
  rcases fl_some n with ⟨_, h⟩ | ⟨_, h⟩ | ⟨_, h⟩ | ⟨_, h⟩ | ⟨_, h⟩ | ⟨_, h⟩ | ⟨_, h⟩ | ⟨_, h⟩ | ⟨_, h⟩ <;> rw [h] <;> decide
theorem and_fl_4 (n : Int) : decide (IntKind.i64.wrap (BitVec.ofInt IntKind.i64.bits (fl n) &&& BitVec.ofInt IntKind.i64.bits ((4 : Nat) : Int)).toNat = 0) = !hasF (fl n) 4 := by
  rcases fl_some n with ⟨_, h⟩ | ⟨_, h⟩ | ⟨_, h⟩ | ⟨_, h⟩ | ⟨_, h⟩ | ⟨_, h⟩ | ⟨_, h⟩ | ⟨_, h⟩ | ⟨_, h⟩ <;> rw [h] <;> decide
theorem and_fl_8 (n : Int) : decide (IntKind.i64.wrap (BitVec.ofInt IntKind.i64.bits (fl n) &&& BitVec.ofInt IntKind.i64.bits ((8 : Nat) : Int)).toNat = 0) = !hasF (fl n) 8 := by
  rcases fl_some n with ⟨_, h⟩ | ⟨_, h⟩ | ⟨_, h⟩ | ⟨_, h⟩ | ⟨_, h⟩ | ⟨_, h⟩ | ⟨_, h⟩ | ⟨_, h⟩ | ⟨_, h⟩ <;> rw [h] <;> decide
theorem and_fl_16 (n : Int) : decide (IntKind.i64.wrap (BitVec.ofInt IntKind.i64.bits (fl n) &&& BitVec.ofInt IntKind.i64.bits ((16 : Nat) : Int)).toNat = 0) = !hasF (fl n) 16 := by
  rcases fl_some n with ⟨_, h⟩ | ⟨_, h⟩ | ⟨_, h⟩ | ⟨_, h⟩ | ⟨_, h⟩ | ⟨_, h⟩ | ⟨_, h⟩ | ⟨_, h⟩ | ⟨_, h⟩ <;> rw [h] <;> decide
theorem and_fl_32 (n : Int) : decide (IntKind.i64.wrap (BitVec.ofInt IntKind.i64.bits (fl n) &&& BitVec.ofInt IntKind.i64.bits ((32 : Nat) : Int)).toNat = 0) = !hasF (fl n) 32 := by
  rcases fl_some n with ⟨_, h⟩ | ⟨_, h⟩ | ⟨_, h⟩ | ⟨_, h⟩ | ⟨_, h⟩ | ⟨_, h⟩ | ⟨_, h⟩ | ⟨_, h⟩ | ⟨_, h⟩ <;> rw [h] <;> decide
theorem and_fl_64 (n : Int) : decide (IntKind.i64.wrap (BitVec.ofInt IntKind.i64.bits (fl n) &&& BitVec.ofInt IntKind.i64.bits ((64 : Nat) : Int)).toNat = 0) = !hasF (fl n) 64 := by
  rcases fl_some n with ⟨_, h⟩ | ⟨_, h⟩ | ⟨_, h⟩ | ⟨_, h⟩ | ⟨_, h⟩ | ⟨_, h⟩ | ⟨_, h⟩ | ⟨_, h⟩ | ⟨_, h⟩ <;> rw [h] <;> decide
theorem rn4 {w : World} {R : List Asn} {g g8 g6 : Nat} {s : Rs} (hS : St W w (rdrA W 197 g (m3 s).2 :: blkA g6 150 [.pointer (some ⟨g, 0, none⟩)] :: blkA g8 3 [.int .i64 (mv s)] :: R)) : Calls Try.prog 117 #[.int .i64 1, .int .u64 1, .pointer (some ⟨g8, 0, none⟩), .pointer (some ⟨g6, 0, none⟩)] w fun e w' => e = .returned (.int .u64 ((m4 s).1 : Int)) ∧ St W w' (rdrA W 197 g (m4 s).2 :: blkA g6 150 [.pointer (some ⟨g, 0, none⟩)] :: blkA g8 3 [.int .i64 (mv s)] :: R) := rnum_calls (m := 1) (most := 1) (and_fl_1 _) hS (by decide)
theorem rn5 {w : World} {R : List Asn} {g g8 g6 : Nat} {s : Rs} (hS : St W w (rdrA W 197 g (m4 s).2 :: blkA g6 150 [.pointer (some ⟨g, 0, none⟩)] :: blkA g8 3 [.int .i64 (mv s)] :: R)) : Calls Try.prog 117 #[.int .i64 2, .int .u64 4611686018427387904, .pointer (some ⟨g8, 0, none⟩), .pointer (some ⟨g6, 0, none⟩)] w fun e w' => e = .returned (.int .u64 ((m5 s).1 : Int)) ∧ St W w' (rdrA W 197 g (m5 s).2 :: blkA g6 150 [.pointer (some ⟨g, 0, none⟩)] :: blkA g8 3 [.int .i64 (mv s)] :: R) := rnum_calls (m := 2) (most := mI) (and_fl_2 _) hS (by decide)
theorem rn6 {w : World} {R : List Asn} {g g8 g6 : Nat} {s : Rs} (hS : St W w (rdrA W 197 g (m5 s).2 :: blkA g6 150 [.pointer (some ⟨g, 0, none⟩)] :: blkA g8 3 [.int .i64 (mv s)] :: R)) : Calls Try.prog 117 #[.int .i64 4, .int .u64 4611686018427387904, .pointer (some ⟨g8, 0, none⟩), .pointer (some ⟨g6, 0, none⟩)] w fun e w' => e = .returned (.int .u64 ((m6 s).1 : Int)) ∧ St W w' (rdrA W 197 g (m6 s).2 :: blkA g6 150 [.pointer (some ⟨g, 0, none⟩)] :: blkA g8 3 [.int .i64 (mv s)] :: R) := rnum_calls (m := 4) (most := mI) (and_fl_4 _) hS (by decide)
theorem rn7 {w : World} {R : List Asn} {g g8 g6 : Nat} {s : Rs} (hS : St W w (rdrA W 197 g (m6 s).2 :: blkA g6 150 [.pointer (some ⟨g, 0, none⟩)] :: blkA g8 3 [.int .i64 (mv s)] :: R)) : Calls Try.prog 117 #[.int .i64 8, .int .u64 4611686018427387904, .pointer (some ⟨g8, 0, none⟩), .pointer (some ⟨g6, 0, none⟩)] w fun e w' => e = .returned (.int .u64 ((m7 s).1 : Int)) ∧ St W w' (rdrA W 197 g (m7 s).2 :: blkA g6 150 [.pointer (some ⟨g, 0, none⟩)] :: blkA g8 3 [.int .i64 (mv s)] :: R) := rnum_calls (m := 8) (most := mI) (and_fl_8 _) hS (by decide)
theorem rn8 {w : World} {R : List Asn} {g g8 g6 : Nat} {s : Rs} (hS : St W w (rdrA W 197 g (m7 s).2 :: blkA g6 150 [.pointer (some ⟨g, 0, none⟩)] :: blkA g8 3 [.int .i64 (mv s)] :: R)) : Calls Try.prog 117 #[.int .i64 16, .int .u64 32, .pointer (some ⟨g8, 0, none⟩), .pointer (some ⟨g6, 0, none⟩)] w fun e w' => e = .returned (.int .u64 ((m8 s).1 : Int)) ∧ St W w' (rdrA W 197 g (m8 s).2 :: blkA g6 150 [.pointer (some ⟨g, 0, none⟩)] :: blkA g8 3 [.int .i64 (mv s)] :: R) := rnum_calls (m := 16) (most := 32) (and_fl_16 _) hS (by decide)
theorem rn11 {w : World} {R : List Asn} {g g8 g6 : Nat} {s : Rs} (hS : St W w (rdrA W 197 g (m10 s).2 :: blkA g6 150 [.pointer (some ⟨g, 0, none⟩)] :: blkA g8 3 [.int .i64 (mv s)] :: R)) : Calls Try.prog 117 #[.int .i64 64, .int .u64 8, .pointer (some ⟨g8, 0, none⟩), .pointer (some ⟨g6, 0, none⟩)] w fun e w' => e = .returned (.int .u64 ((m11 s).1 : Int)) ∧ St W w' (rdrA W 197 g (m11 s).2 :: blkA g6 150 [.pointer (some ⟨g, 0, none⟩)] :: blkA g8 3 [.int .i64 (mv s)] :: R) := rnum_calls (m := 64) (most := 8) (and_fl_64 _) hS (by decide)
theorem rn12 {w : World} {R : List Asn} {g g8 g6 : Nat} {s : Rs} (hS : St W w (rdrA W 197 g (m11 s).2 :: blkA g6 150 [.pointer (some ⟨g, 0, none⟩)] :: blkA g8 3 [.int .i64 (mv s)] :: R)) : Calls Try.prog 117 #[.int .i64 64, .int .u64 18446744073709551615, .pointer (some ⟨g8, 0, none⟩), .pointer (some ⟨g6, 0, none⟩)] w fun e w' => e = .returned (.int .u64 ((m12 s).1 : Int)) ∧ St W w' (rdrA W 197 g (m12 s).2 :: blkA g6 150 [.pointer (some ⟨g, 0, none⟩)] :: blkA g8 3 [.int .i64 (mv s)] :: R) := rnum_calls (m := 64) (most := allNat) (and_fl_64 _) hS (by decide)
theorem rd_round {w1 w : World} {R : List Asn} {s0 : Rs} {j g19 g6 g8 g7 g61 k61 m61 c64 : Nat} {A64 : Option Addr} {es : Sl EntV} (hes : es.l.map EntV.vw = (enk (m8 s0).2 j).1) (hec : ∀ e ∈ es.l, e.body.l.length ≤ e.body.c) (hel : es.l.length = j)
 (hS : St w1 w (rdrA w1 197 g19 (en3 (enk (m8 s0).2 j).2).2 :: blkA g6 150 [.pointer (some ⟨g19, 0, none⟩)] :: blkA g8 3 [.int .i64 (mv s0)] :: ceA g7 114 s0 ((m5 s0).1 : Int) ((m6 s0).1 : Int) ((m7 s0).1 : Int) (decide ((m4 s0).1 = 1)) (.slice A64 (es.l.length + 1) c64) (.slice none 0 0) 0 0 (.slice none 0 0) :: rowA 169 3 A64 (es.l.length + 1) c64 (es.l.flatMap EntV.cells ++ (⟨((en1 (enk (m8 s0).2 j).2).1 : Int), ((en2 (enk (m8 s0).2 j).2).1 : Int), ⟨some ⟨g61, 0, none⟩, (en3 (enk (m8 s0).2 j).2).1.length + k61, (en3 (enk (m8 s0).2 j).2).1⟩⟩ : EntV).cells) :: blkA g61 5 ((en3 (enk (m8 s0).2 j).2).1.map bv ++ List.replicate k61 (.int .u8 0)) (m61, m61 + 1) :: rdsA (es.l.map EntV.rp) :: R)) :
 ∃ es' : Sl EntV, es'.l.map EntV.vw = (enk (m8 s0).2 (j + 1)).1 ∧ (∀ e ∈ es'.l, e.body.l.length ≤ e.body.c) ∧ es'.l.length = j + 1 ∧ St w1 w [rdrA w1 197 g19 (enk (m8 s0).2 (j + 1)).2, blkA g6 150 [.pointer (some ⟨g19, 0, none⟩)], blkA g8 3 [.int .i64 (mv s0)], ceA g7 114 s0 ((m5 s0).1 : Int) ((m6 s0).1 : Int) ((m7 s0).1 : Int) (decide ((m4 s0).1 = 1)) (.slice es'.A es'.l.length es'.c) (.slice none 0 0) 0 0 (.slice none 0 0), rowA 169 3 es'.A es'.l.length es'.c (es'.l.flatMap EntV.cells), rdsA (es'.l.map EntV.rp)] := by
  have hl2 : (⟨A64, c64, es.l ++ [(⟨((en1 (enk (m8 s0).2 j).2).1 : Int), ((en2 (enk (m8 s0).2 j).2).1 : Int), ⟨some ⟨g61, 0, none⟩, (en3 (enk (m8 s0).2 j).2).1.length + k61, (en3 (enk (m8 s0).2 j).2).1⟩⟩ : EntV)]⟩ : Sl EntV).l.length = es.l.length + 1 := List.length_append
  replace hS := (hS.pick (A := ceA g7 114 s0 ((m5 s0).1 : Int) ((m6 s0).1 : Int) ((m7 s0).1 : Int) (decide ((m4 s0).1 = 1)) (.slice A64 (es.l.length + 1) c64) (.slice none 0 0) 0 0 (.slice none 0 0)) (by repeat constructor)).recast (show _ = ceA g7 114 s0 ((m5 s0).1 : Int) ((m6 s0).1 : Int) ((m7 s0).1 : Int) (decide ((m4 s0).1 = 1)) (.slice (⟨A64, c64, es.l ++ [(⟨((en1 (enk (m8 s0).2 j).2).1 : Int), ((en2 (enk (m8 s0).2 j).2).1 : Int), ⟨some ⟨g61, 0, none⟩, (en3 (enk (m8 s0).2 j).2).1.length + k61, (en3 (enk (m8 s0).2 j).2).1⟩⟩ : EntV)]⟩ : Sl EntV).A (⟨A64, c64, es.l ++ [(⟨((en1 (enk (m8 s0).2 j).2).1 : Int), ((en2 (enk (m8 s0).2 j).2).1 : Int), ⟨some ⟨g61, 0, none⟩, (en3 (enk (m8 s0).2 j).2).1.length + k61, (en3 (enk (m8 s0).2 j).2).1⟩⟩ : EntV)]⟩ : Sl EntV).l.length (⟨A64, c64, es.l ++ [(⟨((en1 (enk (m8 s0).2 j).2).1 : Int), ((en2 (enk (m8 s0).2 j).2).1 : Int), ⟨some ⟨g61, 0, none⟩, (en3 (enk (m8 s0).2 j).2).1.length + k61, (en3 (enk (m8 s0).2 j).2).1⟩⟩ : EntV)]⟩ : Sl EntV).c) (.slice none 0 0) 0 0 (.slice none 0 0) from by rw [hl2])
  have h1 := (hS.pick (A := rowA 169 3 A64 _ c64 _) (by repeat constructor)).recast (show _ = rowA 169 3 (⟨A64, c64, es.l ++ [(⟨((en1 (enk (m8 s0).2 j).2).1 : Int), ((en2 (enk (m8 s0).2 j).2).1 : Int), ⟨some ⟨g61, 0, none⟩, (en3 (enk (m8 s0).2 j).2).1.length + k61, (en3 (enk (m8 s0).2 j).2).1⟩⟩ : EntV)]⟩ : Sl EntV).A (⟨A64, c64, es.l ++ [(⟨((en1 (enk (m8 s0).2 j).2).1 : Int), ((en2 (enk (m8 s0).2 j).2).1 : Int), ⟨some ⟨g61, 0, none⟩, (en3 (enk (m8 s0).2 j).2).1.length + k61, (en3 (enk (m8 s0).2 j).2).1⟩⟩ : EntV)]⟩ : Sl EntV).l.length (⟨A64, c64, es.l ++ [(⟨((en1 (enk (m8 s0).2 j).2).1 : Int), ((en2 (enk (m8 s0).2 j).2).1 : Int), ⟨some ⟨g61, 0, none⟩, (en3 (enk (m8 s0).2 j).2).1.length + k61, (en3 (enk (m8 s0).2 j).2).1⟩⟩ : EntV)]⟩ : Sl EntV).c ((⟨A64, c64, es.l ++ [(⟨((en1 (enk (m8 s0).2 j).2).1 : Int), ((en2 (enk (m8 s0).2 j).2).1 : Int), ⟨some ⟨g61, 0, none⟩, (en3 (enk (m8 s0).2 j).2).1.length + k61, (en3 (enk (m8 s0).2 j).2).1⟩⟩ : EntV)]⟩ : Sl EntV).l.flatMap EntV.cells) from by rw [List.flatMap_append, List.length_append, List.flatMap_cons, List.flatMap_nil, List.append_nil]; rfl)
  have h2 := (((h1.pick (A := rdsA (es.l.map EntV.rp)) (by repeat constructor)).pick (A := blkA g61 5 _ (m61, m61 + 1)) (by repeat constructor))).frz_add
  refine ⟨(⟨A64, c64, es.l ++ [(⟨((en1 (enk (m8 s0).2 j).2).1 : Int), ((en2 (enk (m8 s0).2 j).2).1 : Int), ⟨some ⟨g61, 0, none⟩, (en3 (enk (m8 s0).2 j).2).1.length + k61, (en3 (enk (m8 s0).2 j).2).1⟩⟩ : EntV)]⟩ : Sl EntV), ?_, ?_, ?_, ((((((((St.ent_add (es := es.l) (e := (⟨((en1 (enk (m8 s0).2 j).2).1 : Int), ((en2 (enk (m8 s0).2 j).2).1 : Int), ⟨some ⟨g61, 0, none⟩, (en3 (enk (m8 s0).2 j).2).1.length + k61, (en3 (enk (m8 s0).2 j).2).1⟩⟩ : EntV)) h2).pick (A := rdsA _) (by repeat constructor)).pick (A := rowA 169 3 (⟨A64, c64, es.l ++ [(⟨((en1 (enk (m8 s0).2 j).2).1 : Int), ((en2 (enk (m8 s0).2 j).2).1 : Int), ⟨some ⟨g61, 0, none⟩, (en3 (enk (m8 s0).2 j).2).1.length + k61, (en3 (enk (m8 s0).2 j).2).1⟩⟩ : EntV)]⟩ : Sl EntV).A (⟨A64, c64, es.l ++ [(⟨((en1 (enk (m8 s0).2 j).2).1 : Int), ((en2 (enk (m8 s0).2 j).2).1 : Int), ⟨some ⟨g61, 0, none⟩, (en3 (enk (m8 s0).2 j).2).1.length + k61, (en3 (enk (m8 s0).2 j).2).1⟩⟩ : EntV)]⟩ : Sl EntV).l.length (⟨A64, c64, es.l ++ [(⟨((en1 (enk (m8 s0).2 j).2).1 : Int), ((en2 (enk (m8 s0).2 j).2).1 : Int), ⟨some ⟨g61, 0, none⟩, (en3 (enk (m8 s0).2 j).2).1.length + k61, (en3 (enk (m8 s0).2 j).2).1⟩⟩ : EntV)]⟩ : Sl EntV).c ((⟨A64, c64, es.l ++ [(⟨((en1 (enk (m8 s0).2 j).2).1 : Int), ((en2 (enk (m8 s0).2 j).2).1 : Int), ⟨some ⟨g61, 0, none⟩, (en3 (enk (m8 s0).2 j).2).1.length + k61, (en3 (enk (m8 s0).2 j).2).1⟩⟩ : EntV)]⟩ : Sl EntV).l.flatMap EntV.cells)) (by repeat constructor)).pick (A := ceA g7 114 s0 ((m5 s0).1 : Int) ((m6 s0).1 : Int) ((m7 s0).1 : Int) (decide ((m4 s0).1 = 1)) (.slice (⟨A64, c64, es.l ++ [(⟨((en1 (enk (m8 s0).2 j).2).1 : Int), ((en2 (enk (m8 s0).2 j).2).1 : Int), ⟨some ⟨g61, 0, none⟩, (en3 (enk (m8 s0).2 j).2).1.length + k61, (en3 (enk (m8 s0).2 j).2).1⟩⟩ : EntV)]⟩ : Sl EntV).A (⟨A64, c64, es.l ++ [(⟨((en1 (enk (m8 s0).2 j).2).1 : Int), ((en2 (enk (m8 s0).2 j).2).1 : Int), ⟨some ⟨g61, 0, none⟩, (en3 (enk (m8 s0).2 j).2).1.length + k61, (en3 (enk (m8 s0).2 j).2).1⟩⟩ : EntV)]⟩ : Sl EntV).l.length (⟨A64, c64, es.l ++ [(⟨((en1 (enk (m8 s0).2 j).2).1 : Int), ((en2 (enk (m8 s0).2 j).2).1 : Int), ⟨some ⟨g61, 0, none⟩, (en3 (enk (m8 s0).2 j).2).1.length + k61, (en3 (enk (m8 s0).2 j).2).1⟩⟩ : EntV)]⟩ : Sl EntV).c) (.slice none 0 0) 0 0 (.slice none 0 0)) (by repeat constructor)).pick (A := blkA g8 3 [.int .i64 (mv s0)]) (by repeat constructor)).pick (A := blkA g6 150 [.pointer (some ⟨g19, 0, none⟩)]) (by repeat constructor)).pick (A := rdrA w1 197 g19 _) (by repeat constructor))).front6⟩
  · show List.map EntV.vw (es.l ++ [_]) = _
    rw [List.map_append, hes, enk]
    rfl
  · intro e he
    rcases List.mem_append.1 he with h | h
    · exact hec e h
    · rw [List.mem_singleton.1 h]; exact Nat.le_add_right _ _
  · show (es.l ++ [_]).length = _
    rw [List.length_append, hel]
    rfl
set_option maxHeartbeats 4000000 in
set_option maxRecDepth 100000 in
theorem read_calls {A : Option Addr} {c : Nat} {bs : List UInt8} (hR : RdB W A bs) (hc : bs.length ≤ c ∧ bs.length ≤ 100000000) : Calls Try.prog 66 #[.slice A bs.length c] W fun e w' => ∃ (x : MsgV) (er : Int), e = .returned (.tuple #[.agg x.cells.toArray, .int .i64 er]) ∧ GdBy x ∧ RdOut bs x er ∧ St W w' [rdsA (msgR x)] := by
 have hS := St.init W
 refine calls_of_wpE (args := [_]) Try.func66 rfl rfl rfl ?_
 refine c_seq (c_region ?_)
 refine t_alloc Try.zeroValue114 rfl hS (fun g2 w hS => ?_)
 refine t_q (q_assign) ?_
 refine t_nil (c_seq (c_region ?_))
 refine t_q (q_mv (.slice _ _ _) rfl) ?_
 refine t_call Try.call116 (join_calls (hR.st hS) hc) rfl ?_
 rintro e w ⟨A12, c12, Z, rfl, hZ, hT⟩
 refine ⟨_, rfl, ?_⟩
 have hS : St W w (_ :: _) := hS.lift hT
 refine t_q (q_mv (.tuple _) rfl) ?_
 refine t_q (q_extract rfl rfl) ?_
 refine t_q (q_extract rfl rfl) ?_
 refine t_q (q_as (.slice _ _ _) rfl) ?_
 refine t_q (q_as (.bool _) rfl) ?_
 refine t_nil (c_seq (c_seq (c_region ?_)))
 refine t_q (q_mv (.bool _) rfl) ?_
 refine t_q (q_not rfl) ?_
 refine t_nil ?_
 refine c_cond rfl ?_ ?_
 ·
  intro hc4
  have hno : RdOut bs zV 20 := .inr ⟨rfl, rfl, fun y hy => absurd (show (jn bs).isSome = true from by rw [hy]; rfl) (by rw [not_back hc4]; decide)⟩
  refine c_seq (c_region ?_)
  refine t_q (q_build (qs := [(0, 1), (1, 1), (2, 1), (3, 1), (4, 1), (5, 1), (6, 1), (7, 1), (8, 1), (9, 1), (10, 1), (11, 1), (12, 1)]) [(.int _ _), (.int _ _), (.int _ _), (.int _ _), (.int _ _), (.int _ _), (.int _ _), (.bool _), (.slice _ _ _), (.slice _ _ _), (.int _ _), (.int _ _), (.slice _ _ _)] Try.zeroValue114 Try.runUnderlying114 ⟨rfl, Try.sizeOf3, rfl, Try.sizeOf3, rfl, Try.sizeOf3, rfl, Try.sizeOf43, rfl, Try.sizeOf43, rfl, Try.sizeOf43, rfl, Try.sizeOf43, rfl, Try.sizeOf4, rfl, Try.sizeOf111, rfl, Try.sizeOf25, rfl, Try.sizeOf43, rfl, Try.sizeOf43, rfl, Try.sizeOf112, trivial⟩ rfl rfl) ?_
  refine t_store (v := (.agg _)) Try.sizeOf114 hS (by repeat constructor) rfl rfl rfl rfl rfl rfl (fun w hS => ?_)
  refine t_q (q_assign) ?_
  refine t_nil (c_ret ?_)
  refine r_two rfl (res1_cellN Try.isAgg114 Try.sizeOf114 rfl (hS.blk (by repeat constructor)) rfl) rfl ?_
  first
    | exact ⟨zV, 20, rfl, zV_by, hno, zV_rds hS⟩
    | exact ⟨mkX s0 es bd ev, 0, rfl, mkX_by hok, hyes, mkX_rds hS (by repeat constructor) (by repeat constructor)⟩
 ·
  intro hc4
  obtain ⟨Z', hj⟩ : ∃ y, jn bs = some y := Option.isSome_iff_exists.1 (not_back hc4)
  obtain rfl := hZ _ hj
  have hzl : Z.length ≤ 9223372036854775807 := by have := jn_len _ hj (Nat.le_refl _); omega
  refine c_skip (c_seq (c_region ?_))
  refine t_q (q_mv (.slice _ _ _) rfl) ?_
  have hle12 := hS.row_le (t := 5) (size := 1) (A := A12) (c := c12) (by repeat constructor)
  have hb1 := hS.rowRd (A := A12) (c := c12) (bs := Z) (by repeat constructor) rfl
  have hS0 := hS
  obtain ⟨w1, hw1⟩ : ∃ x, x = w := ⟨_, rfl⟩
  subst hw1
  replace hS := St.init w1
  have hzc := hS0.row_le (t := 5) (size := 1) (A := A12) (c := c12) (by repeat constructor)
  refine t_call Try.call81 (Open_calls (bs := Z) hS (Rd.st hb1 hS) ⟨hle12, hzl⟩) rfl ?_
  rintro e w ⟨g19, rfl, hS⟩
  refine ⟨_, rfl, ?_⟩
  obtain ⟨s0, hs0⟩ : ∃ s, s = (⟨Z, false⟩ : Rs) := ⟨_, rfl⟩
  rw [← hs0] at hS
  have b0 : (m0 s0).1 ≤ 8 := s0.nat_le 8
  have b1 : (m1 s0).1 ≤ 15 := Rs.nat_le _ 15
  have b2 : (m2 s0).1 ≤ 15 := Rs.nat_le _ 15
  have b8 : (m8 s0).1 ≤ 32 := oqN_le _ _ _ _
  refine t_alloc Try.zeroValue150 rfl hS (fun g6 w hS => ?_)
  refine t_store (v := (.pointer _)) Try.sizeOf150 hS (by repeat constructor) rfl rfl rfl rfl rfl rfl (fun w hS => ?_)
  replace hS := hS.recast (show blkA g6 150 _ = blkA g6 150 [.pointer (some ⟨g19, 0, none⟩)] from rfl)
  refine t_nil (c_seq (c_draw ?_))
  refine d_keep (blkA g6 150 [.pointer (some ⟨g19, 0, none⟩)]) 14 [0, 1, 2, 3, 4, 5, 6, 7, 8, 9, 10, 11, 12, 13] [0, 1, 2, 3, 4, 5, 6, 7, 8, 9, 10, 11, 12, 13] hS rfl (by kernel_rfl) (by kernel_rfl) (by kernel_rfl) (by kernel_rfl) (fun hap hsel w hS => ?_)
  refine p_q hap hsel 0 rfl rfl ⟨_, hS.pick (by repeat constructor)⟩ (fun w hI => q_load1 Try.isAgg150 rfl (hI.choose_spec.cell (by repeat constructor) rfl)) ?_
  refine p_q hap hsel 3 rfl rfl ⟨_, hS.pick (by repeat constructor)⟩ (fun w hI => q_load1 Try.isAgg150 rfl (hI.choose_spec.cell (by repeat constructor) rfl)) ?_
  refine p_q hap hsel 6 rfl rfl ⟨_, hS.pick (by repeat constructor)⟩ (fun w hI => q_load1 Try.isAgg150 rfl (hI.choose_spec.cell (by repeat constructor) rfl)) ?_
  refine p_q hap hsel 9 rfl rfl ⟨_, hS.pick (by repeat constructor)⟩ (fun w hI => q_load1 Try.isAgg150 rfl (hI.choose_spec.cell (by repeat constructor) rfl)) ?_
  refine p_two 1 12 rfl rfl (by kernel_rfl) ?_ ?_
  ·
   refine t_call Try.call82 (rm0 (s := s0) hS (by repeat constructor)) rfl ?_
   rintro e w ⟨rfl, hS⟩
   refine ⟨_, rfl, ?_⟩
   refine t_nil ?_
   refine ⟨.inr ⟨_, hS.pick (by repeat constructor)⟩, ?_⟩
   refine p_q hap hsel 2 rfl rfl ⟨_, hS.pick (by repeat constructor)⟩ (fun w hI => q_conv_i64 Try.runUnderlying43 Try.runUnderlying3 rfl (by omega)) ?_
   refine p_two 4 12 rfl rfl (by kernel_rfl) ?_ ?_
   ·
    refine t_call Try.call82 (rm1 (s := s0) hS (by repeat constructor)) rfl ?_
    rintro e w ⟨rfl, hS⟩
    refine ⟨_, rfl, ?_⟩
    refine t_nil ?_
    refine ⟨.inr ⟨_, hS.pick (by repeat constructor)⟩, ?_⟩
    refine p_q hap hsel 5 rfl rfl ⟨_, hS.pick (by repeat constructor)⟩ (fun w hI => q_conv_i64 Try.runUnderlying43 Try.runUnderlying3 rfl (by omega)) ?_
    refine p_two 7 12 rfl rfl (by kernel_rfl) ?_ ?_
    ·
     refine t_call Try.call82 (rm2 (s := s0) hS (by repeat constructor)) rfl ?_
     rintro e w ⟨rfl, hS⟩
     refine ⟨_, rfl, ?_⟩
     refine t_nil ?_
     refine ⟨.inr ⟨_, hS.pick (by repeat constructor)⟩, ?_⟩
     refine p_q hap hsel 8 rfl rfl ⟨_, hS.pick (by repeat constructor)⟩ (fun w hI => q_conv_i64 Try.runUnderlying43 Try.runUnderlying3 rfl (by omega)) ?_
     refine p_two 10 12 rfl rfl (by kernel_rfl) ?_ ?_
     ·
      refine t_call Try.call82 (rm3 (s := s0) hS (by repeat constructor)) rfl ?_
      rintro e w ⟨rfl, hS⟩
      refine ⟨_, rfl, ?_⟩
      refine t_nil ?_
      refine ⟨.inr ⟨_, hS.pick (by repeat constructor)⟩, ?_⟩
      refine p_q hap hsel 11 rfl rfl ⟨_, hS.pick (by repeat constructor)⟩ (fun w hI => q_build (qs := [(0, 1), (1, 1), (2, 1), (3, 1), (4, 1), (5, 1), (6, 1), (7, 1), (8, 1), (9, 1), (10, 1), (11, 1), (12, 1)]) [(.int _ _), (.int _ _), (.int _ _), (.int _ _), (.int _ _), (.int _ _), (.int _ _), (.bool _), (.slice _ _ _), (.slice _ _ _), (.int _ _), (.int _ _), (.slice _ _ _)] Try.zeroValue114 Try.runUnderlying114 ⟨rfl, Try.sizeOf3, rfl, Try.sizeOf3, rfl, Try.sizeOf3, rfl, Try.sizeOf43, rfl, Try.sizeOf43, rfl, Try.sizeOf43, rfl, Try.sizeOf43, rfl, Try.sizeOf4, rfl, Try.sizeOf111, rfl, Try.sizeOf25, rfl, Try.sizeOf43, rfl, Try.sizeOf43, rfl, Try.sizeOf112, trivial⟩ rfl rfl) ?_
      refine p_one 12 rfl (by kernel_rfl) ?_
      refine t_alloc Try.zeroValue114 rfl hS (fun g7 w hS => ?_)
      refine t_nil ?_
      refine ⟨.inr ⟨_, hS.pick (by repeat constructor)⟩, ?_⟩
      refine p_one 13 rfl (by kernel_rfl) ?_
      refine t_store (v := (.agg _)) Try.sizeOf114 hS (by repeat constructor) rfl rfl rfl rfl rfl rfl (fun w hS => ?_)
      replace hS := hS.recast (show blkA g7 114 _ = ceA g7 114 s0 0 0 0 (false) (.slice none 0 0) (.slice none 0 0) 0 0 (.slice none 0 0) from rfl)
      refine t_nil ?_
      refine ⟨.inl (by kernel_rfl), ?_⟩
      refine p_end (by kernel_rfl) ?_
      refine c_seq (c_region ?_)
      refine t_q (q_fieldAddr 0 Try.runUnderlying114 rfl Try.sizeOf3 (by decide) rfl rfl) ?_
      refine t_q (q_load1 Try.isAgg3 rfl (hS.cell (by repeat constructor) rfl)) ?_
      refine t_call Try.call102 (fields_calls (n := ((m0 s0).1 : Int))) rfl ?_
      rintro e w ⟨rfl, hT⟩
      refine ⟨_, rfl, ?_⟩
      replace hS := hS.after hT
      refine t_alloc Try.zeroValue3 rfl hS (fun g8 w hS => ?_)
      refine t_store (v := (.int _ _)) Try.sizeOf3 hS (by repeat constructor) rfl rfl rfl rfl rfl rfl (fun w hS => ?_)
      replace hS := hS.recast (show blkA g8 3 _ = blkA g8 3 [.int .i64 (mv s0)] from rfl)
      refine t_nil (c_seq (c_region ?_))
      refine t_q (q_makeFunc rfl) ?_
      refine t_q (q_as (.func _ _ _) rfl) ?_
      refine t_nil (c_seq (c_region ?_))
      refine t_q (q_mv (.func _ _ _) rfl) ?_
      refine t_callv Try.call117 rfl (rn4 (s := s0) (((hS.pick (A := blkA g8 3 [.int .i64 (mv s0)]) (by repeat constructor)).pick (A := blkA g6 150 [.pointer (some ⟨g19, 0, none⟩)]) (by repeat constructor)).pick (A := rdrA w1 197 g19 _) (by repeat constructor))) rfl ?_
      rintro e w ⟨rfl, hS⟩
      refine ⟨_, rfl, ?_⟩
      refine t_q (q_cast (v' := .bool (decide ((m4 s0).1 = 1))) (q_eql rfl rfl) (congrArg Value.bool (decide_eq_decide.2 (by omega)))) ?_
      refine t_q (q_fieldAddr 7 Try.runUnderlying114 rfl Try.sizeOf4 (by decide) rfl rfl) ?_
      refine t_store (v := (.bool _)) Try.sizeOf4 hS (by repeat constructor) rfl rfl rfl rfl rfl rfl (fun w hS => ?_)
      replace hS := hS.recast (show blkA g7 114 _ = ceA g7 114 s0 0 0 0 (decide ((m4 s0).1 = 1)) (.slice none 0 0) (.slice none 0 0) 0 0 (.slice none 0 0) from rfl)
      refine t_nil (c_seq (c_region ?_))
      refine t_q (q_mv (.func _ _ _) rfl) ?_
      refine t_callv Try.call117 rfl (rn5 (s := s0) (((hS.pick (A := blkA g8 3 [.int .i64 (mv s0)]) (by repeat constructor)).pick (A := blkA g6 150 [.pointer (some ⟨g19, 0, none⟩)]) (by repeat constructor)).pick (A := rdrA w1 197 g19 _) (by repeat constructor))) rfl ?_
      rintro e w ⟨rfl, hS⟩
      refine ⟨_, rfl, ?_⟩
      refine t_q (q_mv (.func _ _ _) rfl) ?_
      refine t_callv Try.call117 rfl (rn6 (s := s0) (((hS.pick (A := blkA g8 3 [.int .i64 (mv s0)]) (by repeat constructor)).pick (A := blkA g6 150 [.pointer (some ⟨g19, 0, none⟩)]) (by repeat constructor)).pick (A := rdrA w1 197 g19 _) (by repeat constructor))) rfl ?_
      rintro e w ⟨rfl, hS⟩
      refine ⟨_, rfl, ?_⟩
      refine t_q (q_mv (.func _ _ _) rfl) ?_
      refine t_callv Try.call117 rfl (rn7 (s := s0) (((hS.pick (A := blkA g8 3 [.int .i64 (mv s0)]) (by repeat constructor)).pick (A := blkA g6 150 [.pointer (some ⟨g19, 0, none⟩)]) (by repeat constructor)).pick (A := rdrA w1 197 g19 _) (by repeat constructor))) rfl ?_
      rintro e w ⟨rfl, hS⟩
      refine ⟨_, rfl, ?_⟩
      refine t_q (q_fieldAddr 4 Try.runUnderlying114 rfl Try.sizeOf43 (by decide) rfl rfl) ?_
      refine t_store (v := (.int _ _)) Try.sizeOf43 hS (by repeat constructor) rfl rfl rfl rfl rfl rfl (fun w hS => ?_)
      replace hS := hS.recast (show blkA g7 114 _ = ceA g7 114 s0 ((m5 s0).1 : Int) 0 0 (decide ((m4 s0).1 = 1)) (.slice none 0 0) (.slice none 0 0) 0 0 (.slice none 0 0) from rfl)
      refine t_q (q_fieldAddr 5 Try.runUnderlying114 rfl Try.sizeOf43 (by decide) rfl rfl) ?_
      refine t_store (v := (.int _ _)) Try.sizeOf43 hS (by repeat constructor) rfl rfl rfl rfl rfl rfl (fun w hS => ?_)
      replace hS := hS.recast (show blkA g7 114 _ = ceA g7 114 s0 ((m5 s0).1 : Int) ((m6 s0).1 : Int) 0 (decide ((m4 s0).1 = 1)) (.slice none 0 0) (.slice none 0 0) 0 0 (.slice none 0 0) from rfl)
      refine t_q (q_fieldAddr 6 Try.runUnderlying114 rfl Try.sizeOf43 (by decide) rfl rfl) ?_
      refine t_store (v := (.int _ _)) Try.sizeOf43 hS (by repeat constructor) rfl rfl rfl rfl rfl rfl (fun w hS => ?_)
      replace hS := hS.recast (show blkA g7 114 _ = ceA g7 114 s0 ((m5 s0).1 : Int) ((m6 s0).1 : Int) ((m7 s0).1 : Int) (decide ((m4 s0).1 = 1)) (.slice none 0 0) (.slice none 0 0) 0 0 (.slice none 0 0) from rfl)
      refine t_nil (c_seq (c_seq (c_region ?_)))
      refine t_q (q_mv (.func _ _ _) rfl) ?_
      refine t_callv Try.call117 rfl (rn8 (s := s0) (((hS.pick (A := blkA g8 3 [.int .i64 (mv s0)]) (by repeat constructor)).pick (A := blkA g6 150 [.pointer (some ⟨g19, 0, none⟩)]) (by repeat constructor)).pick (A := rdrA w1 197 g19 _) (by repeat constructor))) rfl ?_
      rintro e w ⟨rfl, hS⟩
      refine ⟨_, rfl, ?_⟩
      refine t_q (q_move) ?_
      refine t_nil (c_block ?_)
      refine c_loop [51, 52, 53, 54, 55, 56, 57, 58, 59, 60, 61, 62, 63, 64, 65, 66] (fun k σ w => ∃ (j : Nat) (es : Sl EntV), σ 51 = .int .u64 (j : Int) ∧ es.l.map EntV.vw = (enk (m8 s0).2 j).1 ∧ (∀ e ∈ es.l, e.body.l.length ≤ e.body.c) ∧ es.l.length = j ∧ j ≤ (m8 s0).1 ∧ (m8 s0).1 - j ≤ k ∧ St w1 w [rdrA w1 197 g19 (enk (m8 s0).2 j).2, blkA g6 150 [.pointer (some ⟨g19, 0, none⟩)], blkA g8 3 [.int .i64 (mv s0)], ceA g7 114 s0 ((m5 s0).1 : Int) ((m6 s0).1 : Int) ((m7 s0).1 : Int) (decide ((m4 s0).1 = 1)) (.slice es.A es.l.length es.c) (.slice none 0 0) 0 0 (.slice none 0 0), rowA 169 3 es.A es.l.length es.c (es.l.flatMap EntV.cells), rdsA (es.l.map EntV.rp)]) ((m8 s0).1) rfl (⟨0, sl0, rfl, rfl, (fun e he => by cases he), rfl, by omega, by omega, (((((((hS.rds0.nilrow 169 3).pick (A := rdsA []) (by repeat constructor)).pick (A := rowA 169 3 none 0 0 []) (by repeat constructor)).pick (A := blkA g7 114 _) (by repeat constructor)).pick (A := blkA g8 3 [.int .i64 (mv s0)]) (by repeat constructor)).pick (A := blkA g6 150 [.pointer (some ⟨g19, 0, none⟩)]) (by repeat constructor)).pick (A := rdrA w1 197 g19 _) (by repeat constructor))⟩) ?_
      skip
      rintro k σ w ⟨j, es, h51, hes, hec, hel, hj8, hk, hS⟩
      refine c_know 51 h51 ?_
      clear h51
      refine c_seq (c_region ?_)
      refine t_q (q_lss rfl rfl) ?_
      refine t_nil (c_seq ?_)
      refine c_cond rfl ?_ ?_
      ·
       intro hc18
       have hc18d := of_decide_eq_true hc18
       refine c_skip (c_seq (c_block (c_draw ?_)))
       refine d_keep2 (blkA g6 150 [.pointer (some ⟨g19, 0, none⟩)]) (kA g7 s0 es) 14 [0, 1, 2, 3, 4, 5, 6, 7, 8, 9, 10, 11, 12, 13] [0, 1, 2, 3, 4, 5, 6, 7, 8, 9, 10, 11, 12, 13] hS rfl (by kernel_rfl) (by kernel_rfl) (by kernel_rfl) (by kernel_rfl) (fun hap hsel w hS => ?_)
       refine p_q hap hsel 0 rfl rfl ⟨_, ((hS.pick (A := kA g7 s0 es) (by repeat constructor)).pick (A := blkA g6 150 [.pointer (some ⟨g19, 0, none⟩)]) (by repeat constructor))⟩ (fun w hI => q_fieldAddr 8 Try.runUnderlying114 rfl Try.sizeOf111 (by decide) rfl rfl) ?_
       refine p_q hap hsel 1 rfl rfl ⟨_, ((hS.pick (A := kA g7 s0 es) (by repeat constructor)).pick (A := blkA g6 150 [.pointer (some ⟨g19, 0, none⟩)]) (by repeat constructor))⟩ (fun w hI => q_load1 Try.isAgg111 rfl (hI.choose_spec.cell (by repeat constructor) rfl)) ?_
       refine p_q hap hsel 2 rfl rfl ⟨_, ((hS.pick (A := kA g7 s0 es) (by repeat constructor)).pick (A := blkA g6 150 [.pointer (some ⟨g19, 0, none⟩)]) (by repeat constructor))⟩ (fun w hI => q_load1 Try.isAgg150 rfl (hI.choose_spec.cell (by repeat constructor) rfl)) ?_
       refine p_q hap hsel 4 rfl rfl ⟨_, ((hS.pick (A := kA g7 s0 es) (by repeat constructor)).pick (A := blkA g6 150 [.pointer (some ⟨g19, 0, none⟩)]) (by repeat constructor))⟩ (fun w hI => q_load1 Try.isAgg150 rfl (hI.choose_spec.cell (by repeat constructor) rfl)) ?_
       refine p_q hap hsel 6 rfl rfl ⟨_, ((hS.pick (A := kA g7 s0 es) (by repeat constructor)).pick (A := blkA g6 150 [.pointer (some ⟨g19, 0, none⟩)]) (by repeat constructor))⟩ (fun w hI => q_load1 Try.isAgg150 rfl (hI.choose_spec.cell (by repeat constructor) rfl)) ?_
       refine p_one 3 rfl (by kernel_rfl) ?_
       refine t_call Try.call82 (ren1 (s := (enk (m8 s0).2 j).2) hS (by repeat constructor)) rfl ?_
       rintro e w ⟨rfl, hS⟩
       refine ⟨_, rfl, ?_⟩
       refine t_nil ?_
       refine ⟨.inr ⟨_, ((hS.pick (A := kA g7 s0 es) (by repeat constructor)).pick (A := blkA g6 150 [.pointer (some ⟨g19, 0, none⟩)]) (by repeat constructor))⟩, ?_⟩
       refine p_one 5 rfl (by kernel_rfl) ?_
       refine t_call Try.call82 (ren2 (s := (enk (m8 s0).2 j).2) hS (by repeat constructor)) rfl ?_
       rintro e w ⟨rfl, hS⟩
       refine ⟨_, rfl, ?_⟩
       refine t_nil ?_
       refine ⟨.inr ⟨_, ((hS.pick (A := kA g7 s0 es) (by repeat constructor)).pick (A := blkA g6 150 [.pointer (some ⟨g19, 0, none⟩)]) (by repeat constructor))⟩, ?_⟩
       refine p_one 7 rfl (by kernel_rfl) ?_
       refine t_call Try.call118 (ren3 (s := (enk (m8 s0).2 j).2) hS (by repeat constructor)) rfl ?_
       rintro e w ⟨rfl, hS⟩
       refine ⟨_, rfl, ?_⟩
       refine t_nil ?_
       refine ⟨.inr ⟨_, ((hS.pick (A := kA g7 s0 es) (by repeat constructor)).pick (A := blkA g6 150 [.pointer (some ⟨g19, 0, none⟩)]) (by repeat constructor))⟩, ?_⟩
       refine p_one 8 rfl (by kernel_rfl) ?_
       refine t_bytes Try.underlying9 Try.underlying25 Try.underlying5 hS rfl (fun g61 k61 m61 w hS => ?_)
       replace hS := hS.recast (show blkA g61 5 _ (m61, m61 + 1) = blkA g61 5 ((en3 (enk (m8 s0).2 j).2).1.map bv ++ List.replicate k61 (.int .u8 0)) (m61, m61 + 1) from by simp)
       refine t_nil ?_
       refine ⟨.inr ⟨_, ((hS.pick (A := kA g7 s0 es) (by repeat constructor)).pick (A := blkA g6 150 [.pointer (some ⟨g19, 0, none⟩)]) (by repeat constructor))⟩, ?_⟩
       refine p_q hap hsel 9 rfl rfl ⟨_, ((hS.pick (A := kA g7 s0 es) (by repeat constructor)).pick (A := blkA g6 150 [.pointer (some ⟨g19, 0, none⟩)]) (by repeat constructor))⟩ (fun w hI => q_build (qs := [(0, 1), (1, 1), (2, 1)]) [(.int _ _), (.int _ _), (.slice _ _ _)] Try.zeroValue169 Try.runUnderlying169 ⟨rfl, Try.sizeOf43, rfl, Try.sizeOf43, rfl, Try.sizeOf25, trivial⟩ rfl rfl) ?_
       refine p_one 10 rfl (by kernel_rfl) ?_
       refine t_buildSlice Try.runUnderlying111 Try.sizeOf169 Try.zeroValue169 rfl rfl (by intro v hv; simp at hv; try (first | (subst hv; rfl) | (rcases hv with rfl | rfl <;> rfl))) (by decide) (by decide) hS (fun g63 w hS => ?_)
       refine t_nil ?_
       refine ⟨.inr ⟨_, ((hS.pick (A := kA g7 s0 es) (by repeat constructor)).pick (A := blkA g6 150 [.pointer (some ⟨g19, 0, none⟩)]) (by repeat constructor))⟩, ?_⟩
       refine p_one 11 rfl (by kernel_rfl) ?_
       refine t_append_own (size := 3) (bytes := 40) Try.underlying111 (info_of Try.type169) rfl rfl rfl rfl (by decide) hS (by repeat constructor) (by repeat constructor) rfl rfl (by first | exact allOne_bv _ | exact allOne_ints _ _ | rfl) (by unfold maxLen; omega) (by omega) (fun A64 c64 w hS => ?_)
       refine t_nil ?_
       refine ⟨.inr ⟨_, ((hS.pick (A := kA g7 s0 es) (by repeat constructor)).pick (A := blkA g6 150 [.pointer (some ⟨g19, 0, none⟩)]) (by repeat constructor))⟩, ?_⟩
       refine p_q hap hsel 12 rfl rfl ⟨_, ((hS.pick (A := kA g7 s0 es) (by repeat constructor)).pick (A := blkA g6 150 [.pointer (some ⟨g19, 0, none⟩)]) (by repeat constructor))⟩ (fun w hI => q_fieldAddr 8 Try.runUnderlying114 rfl Try.sizeOf111 (by decide) rfl rfl) ?_
       refine p_one 13 rfl (by kernel_rfl) ?_
       refine t_store (v := (.slice _ _ _)) Try.sizeOf111 hS (by repeat constructor) rfl rfl rfl rfl rfl rfl (fun w hS => ?_)
       replace hS := hS.recast (show blkA g7 114 _ = ceA g7 114 s0 ((m5 s0).1 : Int) ((m6 s0).1 : Int) ((m7 s0).1 : Int) (decide ((m4 s0).1 = 1)) (.slice A64 (es.l.length + 1) c64) (.slice none 0 0) 0 0 (.slice none 0 0) from rfl)
       refine t_nil ?_
       refine ⟨.inl (by kernel_rfl), ?_⟩
       refine p_end (by kernel_rfl) ?_
       refine c_region ?_
       refine t_q (q_add_u64 rfl rfl (by omega)) ?_
       refine t_q (q_mv (.int _ _) rfl) ?_
       refine t_nil ?_
       obtain ⟨es', h1, h2, h3, h4⟩ := rd_round (es := es) (k61 := k61) hes hec hel (((((((hS.pick (A := rdsA (es.l.map EntV.rp)) (by repeat constructor)).pick (A := blkA g61 5 _ (m61, m61 + 1)) (by repeat constructor)).pick (A := rowA 169 3 A64 _ c64 _) (by repeat constructor)).pick (A := blkA g7 114 _) (by repeat constructor)).pick (A := blkA g8 3 [.int .i64 (mv s0)]) (by repeat constructor)).pick (A := blkA g6 150 [.pointer (some ⟨g19, 0, none⟩)]) (by repeat constructor)).pick (A := rdrA w1 197 g19 _) (by repeat constructor))
       exact ⟨k - 1, by omega, j + 1, es', rfl, h1, h2, h3, by omega, by omega, h4⟩
      ·
       intro hc18
       have hc18d := of_decide_eq_false hc18
       obtain rfl : j = (m8 s0).1 := by omega
       refine c_exit ?_
       refine ite_t rfl ?_
       refine c_cut [67, 68, 69, 70, 71, 72, 73] (fun σ w => ∃ bd : Sl UInt8, bd.l = (m10 s0).1 ∧ bd.l.length ≤ bd.c ∧ St w1 w [rdrA w1 197 g19 (m10 s0).2, blkA g6 150 [.pointer (some ⟨g19, 0, none⟩)], blkA g8 3 [.int .i64 (mv s0)], ceA g7 114 s0 ((m5 s0).1 : Int) ((m6 s0).1 : Int) ((m7 s0).1 : Int) (decide ((m4 s0).1 = 1)) (.slice es.A es.l.length es.c) (.slice bd.A bd.l.length bd.c) 0 0 (.slice none 0 0), rowA 169 3 es.A es.l.length es.c (es.l.flatMap EntV.cells), rdsA (brp bd :: es.l.map EntV.rp)]) rfl ?_ ?_
       ·
        refine c_seq (c_region ?_)
        refine t_q (q_load1 Try.isAgg3 rfl (hS.cell (by repeat constructor) rfl)) ?_
        refine t_q (q_and rfl rfl) ?_
        refine t_q (q_cast (v' := .bool (hasF (mv s0) 32)) (q_neq rfl rfl) (congrArg Value.bool (and_ne (and_fl_32 _)))) ?_
        refine t_nil ?_
        refine c_cond rfl ?_ ?_
        ·
         intro hc23
         have hc23d := of_decide_eq_true hc23
         have hb32 : hasF (mv s0) 32 = true := hc23
         refine c_region ?_
         refine t_q (q_load1 Try.isAgg150 rfl (hS.cell (by repeat constructor) rfl)) ?_
         refine t_call Try.call118 (rm10 (s := s0) hb32 hS (by repeat constructor)) rfl ?_
         rintro e w ⟨rfl, hS⟩
         refine ⟨_, rfl, ?_⟩
         refine t_bytes Try.underlying9 Try.underlying25 Try.underlying5 hS rfl (fun g72 k72 m72 w hS => ?_)
         replace hS := hS.recast (show blkA g72 5 _ (m72, m72 + 1) = blkA g72 5 ((m10 s0).1.map bv ++ List.replicate k72 (.int .u8 0)) (m72, m72 + 1) from by simp)
         refine t_q (q_fieldAddr 9 Try.runUnderlying114 rfl Try.sizeOf25 (by decide) rfl rfl) ?_
         refine t_store (v := (.slice _ _ _)) Try.sizeOf25 hS (by repeat constructor) rfl rfl rfl rfl rfl rfl (fun w hS => ?_)
         replace hS := hS.recast (show blkA g7 114 _ = ceA g7 114 s0 ((m5 s0).1 : Int) ((m6 s0).1 : Int) ((m7 s0).1 : Int) (decide ((m4 s0).1 = 1)) (.slice es.A es.l.length es.c) (.slice (⟨some ⟨g72, 0, none⟩, (m10 s0).1.length + k72, (m10 s0).1⟩ : Sl UInt8).A (⟨some ⟨g72, 0, none⟩, (m10 s0).1.length + k72, (m10 s0).1⟩ : Sl UInt8).l.length (⟨some ⟨g72, 0, none⟩, (m10 s0).1.length + k72, (m10 s0).1⟩ : Sl UInt8).c) 0 0 (.slice none 0 0) from rfl)
         refine t_nil ?_
         first
           | exact ⟨⟨some ⟨g72, 0, none⟩, (m10 s0).1.length + k72, (m10 s0).1⟩, rfl, Nat.le_add_right _ _, (((((((((hS.pick (A := rdsA (es.l.map EntV.rp)) (by repeat constructor)).pick (A := blkA g72 5 _ (m72, m72 + 1)) (by repeat constructor)).frz_add).pick (A := rdsA _) (by repeat constructor)).pick (A := rowA 169 3 es.A es.l.length es.c (es.l.flatMap EntV.cells)) (by repeat constructor)).pick (A := blkA g7 114 _) (by repeat constructor)).pick (A := blkA g8 3 [.int .i64 (mv s0)]) (by repeat constructor)).pick (A := blkA g6 150 [.pointer (some ⟨g19, 0, none⟩)]) (by repeat constructor)).pick (A := rdrA w1 197 g19 _) (by repeat constructor))⟩
           | (have e10 : m10 s0 = ([], (m9 s0).2) := by unfold m10 oqT; rw [hb32]; rfl
              rw [e10]
              exact ⟨sl0, rfl, Nat.le_refl _, (((((((((((hS.nilrow 5 1).pick (A := rdsA (es.l.map EntV.rp)) (by repeat constructor)).pick (A := rowA 5 1 none 0 0 []) (by repeat constructor))).rds_add (f := bsf []) (Rd.none_ _ _ _ _)).pick (A := rdsA _) (by repeat constructor)).pick (A := rowA 169 3 es.A es.l.length es.c (es.l.flatMap EntV.cells)) (by repeat constructor)).pick (A := blkA g7 114 _) (by repeat constructor)).pick (A := blkA g8 3 [.int .i64 (mv s0)]) (by repeat constructor)).pick (A := blkA g6 150 [.pointer (some ⟨g19, 0, none⟩)]) (by repeat constructor)).pick (A := rdrA w1 197 g19 _) (by repeat constructor))⟩)
        ·
         intro hc23
         have hc23d := of_decide_eq_false hc23
         have hb32 : hasF (mv s0) 32 = false := hc23
         refine c_skip ?_
         first
           | exact ⟨⟨some ⟨g72, 0, none⟩, (m10 s0).1.length + k72, (m10 s0).1⟩, rfl, Nat.le_add_right _ _, (((((((((hS.pick (A := rdsA (es.l.map EntV.rp)) (by repeat constructor)).pick (A := blkA g72 5 _ (m72, m72 + 1)) (by repeat constructor)).frz_add).pick (A := rdsA _) (by repeat constructor)).pick (A := rowA 169 3 es.A es.l.length es.c (es.l.flatMap EntV.cells)) (by repeat constructor)).pick (A := blkA g7 114 _) (by repeat constructor)).pick (A := blkA g8 3 [.int .i64 (mv s0)]) (by repeat constructor)).pick (A := blkA g6 150 [.pointer (some ⟨g19, 0, none⟩)]) (by repeat constructor)).pick (A := rdrA w1 197 g19 _) (by repeat constructor))⟩
           | (have e10 : m10 s0 = ([], (m9 s0).2) := by unfold m10 oqT; rw [hb32]; rfl
              rw [e10]
              exact ⟨sl0, rfl, Nat.le_refl _, (((((((((((hS.nilrow 5 1).pick (A := rdsA (es.l.map EntV.rp)) (by repeat constructor)).pick (A := rowA 5 1 none 0 0 []) (by repeat constructor))).rds_add (f := bsf []) (Rd.none_ _ _ _ _)).pick (A := rdsA _) (by repeat constructor)).pick (A := rowA 169 3 es.A es.l.length es.c (es.l.flatMap EntV.cells)) (by repeat constructor)).pick (A := blkA g7 114 _) (by repeat constructor)).pick (A := blkA g8 3 [.int .i64 (mv s0)]) (by repeat constructor)).pick (A := blkA g6 150 [.pointer (some ⟨g19, 0, none⟩)]) (by repeat constructor)).pick (A := rdrA w1 197 g19 _) (by repeat constructor))⟩)
       ·
        rintro σ w ⟨bd, hbd, hbc, hS⟩
        refine c_seq (c_region ?_)
        refine t_q (q_mv (.func _ _ _) rfl) ?_
        refine t_callv Try.call117 rfl (rn11 (s := s0) (((hS.pick (A := blkA g8 3 [.int .i64 (mv s0)]) (by repeat constructor)).pick (A := blkA g6 150 [.pointer (some ⟨g19, 0, none⟩)]) (by repeat constructor)).pick (A := rdrA w1 197 g19 _) (by repeat constructor))) rfl ?_
        rintro e w ⟨rfl, hS⟩
        refine ⟨_, rfl, ?_⟩
        refine t_q (q_mv (.func _ _ _) rfl) ?_
        refine t_callv Try.call117 rfl (rn12 (s := s0) (((hS.pick (A := blkA g8 3 [.int .i64 (mv s0)]) (by repeat constructor)).pick (A := blkA g6 150 [.pointer (some ⟨g19, 0, none⟩)]) (by repeat constructor)).pick (A := rdrA w1 197 g19 _) (by repeat constructor))) rfl ?_
        rintro e w ⟨rfl, hS⟩
        refine ⟨_, rfl, ?_⟩
        refine t_q (q_fieldAddr 10 Try.runUnderlying114 rfl Try.sizeOf43 (by decide) rfl rfl) ?_
        refine t_store (v := (.int _ _)) Try.sizeOf43 hS (by repeat constructor) rfl rfl rfl rfl rfl rfl (fun w hS => ?_)
        replace hS := hS.recast (show blkA g7 114 _ = ceA g7 114 s0 ((m5 s0).1 : Int) ((m6 s0).1 : Int) ((m7 s0).1 : Int) (decide ((m4 s0).1 = 1)) (.slice es.A es.l.length es.c) (.slice bd.A bd.l.length bd.c) ((m11 s0).1 : Int) 0 (.slice none 0 0) from rfl)
        refine t_q (q_fieldAddr 11 Try.runUnderlying114 rfl Try.sizeOf43 (by decide) rfl rfl) ?_
        refine t_store (v := (.int _ _)) Try.sizeOf43 hS (by repeat constructor) rfl rfl rfl rfl rfl rfl (fun w hS => ?_)
        replace hS := hS.recast (show blkA g7 114 _ = ceA g7 114 s0 ((m5 s0).1 : Int) ((m6 s0).1 : Int) ((m7 s0).1 : Int) (decide ((m4 s0).1 = 1)) (.slice es.A es.l.length es.c) (.slice bd.A bd.l.length bd.c) ((m11 s0).1 : Int) ((m12 s0).1 : Int) (.slice none 0 0) from rfl)
        refine t_nil ?_
        refine c_cut [80, 81, 82, 83, 84, 85, 86, 87, 88] (fun σ w => ∃ ev : Sl Ev, ev.l = (m13 s0).1 ∧ St w1 w [rdrA w1 197 g19 (m13 s0).2, blkA g6 150 [.pointer (some ⟨g19, 0, none⟩)], blkA g8 3 [.int .i64 (mv s0)], ceA g7 114 s0 ((m5 s0).1 : Int) ((m6 s0).1 : Int) ((m7 s0).1 : Int) (decide ((m4 s0).1 = 1)) (.slice es.A es.l.length es.c) (.slice bd.A bd.l.length bd.c) ((m11 s0).1 : Int) ((m12 s0).1 : Int) (.slice ev.A ev.l.length ev.c), rowA 169 3 es.A es.l.length es.c (es.l.flatMap EntV.cells), rdsA (erp ev :: brp bd :: es.l.map EntV.rp)]) rfl ?_ ?_
        ·
         refine c_seq (c_region ?_)
         refine t_q (q_load1 Try.isAgg3 rfl (hS.cell (by repeat constructor) rfl)) ?_
         refine t_q (q_and rfl rfl) ?_
         refine t_q (q_cast (v' := .bool (hasF (mv s0) 64)) (q_neq rfl rfl) (congrArg Value.bool (and_ne (and_fl_64 _)))) ?_
         refine t_nil ?_
         refine c_cond rfl ?_ ?_
         ·
          intro hc28
          have hc28d := of_decide_eq_true hc28
          have hb64 : hasF (mv s0) 64 = true := hc28
          refine c_region ?_
          refine t_q (q_load1 Try.isAgg150 rfl (hS.cell (by repeat constructor) rfl)) ?_
          refine t_call Try.call119 (eread_calls (s := (m12 s0).2) hS (by repeat constructor) (m12_wf (by rw [hs0]; intro h; cases h))) rfl ?_
          rintro e w ⟨A85, n85, c85, rfl, hn85, hS⟩
          refine ⟨_, rfl, ?_⟩
          subst hn85
          refine t_q (q_mv (.tuple _) rfl) ?_
          refine t_q (q_extract rfl rfl) ?_
          refine t_q (q_extract rfl rfl) ?_
          refine t_q (q_fieldAddr 12 Try.runUnderlying114 rfl Try.sizeOf112 (by decide) rfl rfl) ?_
          refine t_store (v := (.slice _ _ _)) Try.sizeOf112 hS (by repeat constructor) rfl rfl rfl rfl rfl rfl (fun w hS => ?_)
          replace hS := hS.recast (show blkA g7 114 _ = ceA g7 114 s0 ((m5 s0).1 : Int) ((m6 s0).1 : Int) ((m7 s0).1 : Int) (decide ((m4 s0).1 = 1)) (.slice es.A es.l.length es.c) (.slice bd.A bd.l.length bd.c) ((m11 s0).1 : Int) ((m12 s0).1 : Int) (.slice (⟨A85, c85, evL (m12 s0).2⟩ : Sl Ev).A (⟨A85, c85, evL (m12 s0).2⟩ : Sl Ev).l.length (⟨A85, c85, evL (m12 s0).2⟩ : Sl Ev).c) from rfl)
          refine t_nil ?_
          first
            | (have e13 : m13 s0 = (evL (m12 s0).2, evS (m12 s0).2) := by unfold m13 oqE; rw [hb64]; rfl
               rw [e13]
               exact ⟨⟨A85, c85, evL (m12 s0).2⟩, rfl, ((((((((((hS.pick (A := rdsA (brp bd :: es.l.map EntV.rp)) (by repeat constructor)).pick (A := rowA 206 12 A85 _ c85 _) (by repeat constructor))).rds_add (f := evf (evL (m12 s0).2)) (rowRdE hS (by repeat constructor) rfl)).pick (A := rdsA _) (by repeat constructor)).pick (A := rowA 169 3 es.A es.l.length es.c (es.l.flatMap EntV.cells)) (by repeat constructor)).pick (A := blkA g7 114 _) (by repeat constructor)).pick (A := blkA g8 3 [.int .i64 (mv s0)]) (by repeat constructor)).pick (A := blkA g6 150 [.pointer (some ⟨g19, 0, none⟩)]) (by repeat constructor)).pick (A := rdrA w1 197 g19 _) (by repeat constructor))⟩)
            | (have e13 : m13 s0 = ([], (m12 s0).2) := by unfold m13 oqE; rw [hb64]; rfl
               rw [e13]
               exact ⟨sl0, rfl, (((((((((((hS.nilrow 206 12).pick (A := rdsA (brp bd :: es.l.map EntV.rp)) (by repeat constructor)).pick (A := rowA 206 12 none 0 0 []) (by repeat constructor))).rds_add (f := evf []) (Rd.none_ _ _ _ _)).pick (A := rdsA _) (by repeat constructor)).pick (A := rowA 169 3 es.A es.l.length es.c (es.l.flatMap EntV.cells)) (by repeat constructor)).pick (A := blkA g7 114 _) (by repeat constructor)).pick (A := blkA g8 3 [.int .i64 (mv s0)]) (by repeat constructor)).pick (A := blkA g6 150 [.pointer (some ⟨g19, 0, none⟩)]) (by repeat constructor)).pick (A := rdrA w1 197 g19 _) (by repeat constructor))⟩)
         ·
          intro hc28
          have hc28d := of_decide_eq_false hc28
          have hb64 : hasF (mv s0) 64 = false := hc28
          refine c_skip ?_
          first
            | (have e13 : m13 s0 = (evL (m12 s0).2, evS (m12 s0).2) := by unfold m13 oqE; rw [hb64]; rfl
               rw [e13]
               exact ⟨⟨A85, c85, evL (m12 s0).2⟩, rfl, ((((((((((hS.pick (A := rdsA (brp bd :: es.l.map EntV.rp)) (by repeat constructor)).pick (A := rowA 206 12 A85 _ c85 _) (by repeat constructor))).rds_add (f := evf (evL (m12 s0).2)) (rowRdE hS (by repeat constructor) rfl)).pick (A := rdsA _) (by repeat constructor)).pick (A := rowA 169 3 es.A es.l.length es.c (es.l.flatMap EntV.cells)) (by repeat constructor)).pick (A := blkA g7 114 _) (by repeat constructor)).pick (A := blkA g8 3 [.int .i64 (mv s0)]) (by repeat constructor)).pick (A := blkA g6 150 [.pointer (some ⟨g19, 0, none⟩)]) (by repeat constructor)).pick (A := rdrA w1 197 g19 _) (by repeat constructor))⟩)
            | (have e13 : m13 s0 = ([], (m12 s0).2) := by unfold m13 oqE; rw [hb64]; rfl
               rw [e13]
               exact ⟨sl0, rfl, (((((((((((hS.nilrow 206 12).pick (A := rdsA (brp bd :: es.l.map EntV.rp)) (by repeat constructor)).pick (A := rowA 206 12 none 0 0 []) (by repeat constructor))).rds_add (f := evf []) (Rd.none_ _ _ _ _)).pick (A := rdsA _) (by repeat constructor)).pick (A := rowA 169 3 es.A es.l.length es.c (es.l.flatMap EntV.cells)) (by repeat constructor)).pick (A := blkA g7 114 _) (by repeat constructor)).pick (A := blkA g8 3 [.int .i64 (mv s0)]) (by repeat constructor)).pick (A := blkA g6 150 [.pointer (some ⟨g19, 0, none⟩)]) (by repeat constructor)).pick (A := rdrA w1 197 g19 _) (by repeat constructor))⟩)
        ·
         rintro σ w ⟨ev, hev, hS⟩
         have hok : PtOk s0 es bd ev := ⟨hes, hec, hbd, hbc, hev⟩
         refine c_seq (c_seq (c_region ?_))
         refine t_q (q_load1 Try.isAgg150 rfl (hS.cell (by repeat constructor) rfl)) ?_
         refine t_call Try.call83 (rEnd hS (by repeat constructor)) rfl ?_
         rintro e w ⟨rfl, hS⟩
         refine ⟨_, rfl, ?_⟩
         have hS : St W w (_ :: _) := hS0.lift hS
         refine t_q (q_neq rfl rfl) ?_
         refine t_q (q_mv (.bool _) rfl) ?_
         refine t_case 92 rfl ?_ ?_
         ·
          intro hg34
          have hg34d := of_decide_eq_true hg34
          refine t_no rfl rfl (by rw [hg34]; decide) ?_
          refine t_no rfl rfl (by rw [hg34]; decide) ?_
          refine t_no rfl rfl (by rw [hg34]; decide) ?_
          refine t_q (q_pick_t rfl hg34) ?_
          refine t_nil ?_
          refine c_cond_t rfl rfl ?_
          have hno : RdOut bs zV 20 := by
            refine .inr ⟨rfl, rfl, fun Z' hj' he y hy => ?_⟩
            obtain rfl : Z = Z' := by rw [hj] at hj'; injection hj'
            rw [← hs0] at he hy
            first
              | (exfalso; omega)
              | (rw [soundB_vw (hy.trans (mkX_vw hok).symm)]; exact bnt (by assumption))
          refine c_seq (c_region ?_)
          refine t_q (q_build (qs := [(0, 1), (1, 1), (2, 1), (3, 1), (4, 1), (5, 1), (6, 1), (7, 1), (8, 1), (9, 1), (10, 1), (11, 1), (12, 1)]) [(.int _ _), (.int _ _), (.int _ _), (.int _ _), (.int _ _), (.int _ _), (.int _ _), (.bool _), (.slice _ _ _), (.slice _ _ _), (.int _ _), (.int _ _), (.slice _ _ _)] Try.zeroValue114 Try.runUnderlying114 ⟨rfl, Try.sizeOf3, rfl, Try.sizeOf3, rfl, Try.sizeOf3, rfl, Try.sizeOf43, rfl, Try.sizeOf43, rfl, Try.sizeOf43, rfl, Try.sizeOf43, rfl, Try.sizeOf4, rfl, Try.sizeOf111, rfl, Try.sizeOf25, rfl, Try.sizeOf43, rfl, Try.sizeOf43, rfl, Try.sizeOf112, trivial⟩ rfl rfl) ?_
          refine t_store (v := (.agg _)) Try.sizeOf114 hS (by repeat constructor) rfl rfl rfl rfl rfl rfl (fun w hS => ?_)
          refine t_q (q_assign) ?_
          refine t_nil (c_ret ?_)
          refine r_two rfl (res1_cellN Try.isAgg114 Try.sizeOf114 rfl (hS.blk (by repeat constructor)) rfl) rfl ?_
          first
            | exact ⟨zV, 20, rfl, zV_by, hno, zV_rds hS⟩
            | exact ⟨mkX s0 es bd ev, 0, rfl, mkX_by hok, hyes, mkX_rds hS (by repeat constructor) (by repeat constructor)⟩
         ·
          intro hg34
          have hg34d := of_decide_eq_false hg34
          refine t_yes rfl rfl hg34 ?_
          refine t_q (q_cast (v' := .agg (mkX s0 es bd ev).cells.toArray) (q_load_blk Try.isAgg114 Try.sizeOf114 rfl (hS.blk (by repeat constructor)) rfl) (by rfl)) ?_
          refine t_yes rfl rfl hg34 ?_
          have hXg : (mkX s0 es bd ev).Gd w := mkX_gd hok hS (by repeat constructor) (by repeat constructor)
          refine t_call Try.call59 (wsound_calls (x := mkX s0 es bd ev) hXg) rfl ?_
          rintro e w ⟨rfl, hT⟩
          refine ⟨_, rfl, ?_⟩
          replace hS := hS.after hT
          refine t_yes rfl rfl hg34 ?_
          refine t_q (q_not rfl) ?_
          refine t_q (q_pick_f rfl hg34) ?_
          refine t_nil ?_
          refine c_cond rfl ?_ ?_
          ·
           intro hc36
           have hno : RdOut bs zV 20 := by
             refine .inr ⟨rfl, rfl, fun Z' hj' he y hy => ?_⟩
             obtain rfl : Z = Z' := by rw [hj] at hj'; injection hj'
             rw [← hs0] at he hy
             first
               | (exfalso; omega)
               | (rw [soundB_vw (hy.trans (mkX_vw hok).symm)]; exact bnt (by assumption))
           refine c_seq (c_region ?_)
           refine t_q (q_build (qs := [(0, 1), (1, 1), (2, 1), (3, 1), (4, 1), (5, 1), (6, 1), (7, 1), (8, 1), (9, 1), (10, 1), (11, 1), (12, 1)]) [(.int _ _), (.int _ _), (.int _ _), (.int _ _), (.int _ _), (.int _ _), (.int _ _), (.bool _), (.slice _ _ _), (.slice _ _ _), (.int _ _), (.int _ _), (.slice _ _ _)] Try.zeroValue114 Try.runUnderlying114 ⟨rfl, Try.sizeOf3, rfl, Try.sizeOf3, rfl, Try.sizeOf3, rfl, Try.sizeOf43, rfl, Try.sizeOf43, rfl, Try.sizeOf43, rfl, Try.sizeOf43, rfl, Try.sizeOf4, rfl, Try.sizeOf111, rfl, Try.sizeOf25, rfl, Try.sizeOf43, rfl, Try.sizeOf43, rfl, Try.sizeOf112, trivial⟩ rfl rfl) ?_
           refine t_store (v := (.agg _)) Try.sizeOf114 hS (by repeat constructor) rfl rfl rfl rfl rfl rfl (fun w hS => ?_)
           refine t_q (q_assign) ?_
           refine t_nil (c_ret ?_)
           refine r_two rfl (res1_cellN Try.isAgg114 Try.sizeOf114 rfl (hS.blk (by repeat constructor)) rfl) rfl ?_
           first
             | exact ⟨zV, 20, rfl, zV_by, hno, zV_rds hS⟩
             | exact ⟨mkX s0 es bd ev, 0, rfl, mkX_by hok, hyes, mkX_rds hS (by repeat constructor) (by repeat constructor)⟩
          ·
           intro hc36
           have hyes : RdOut bs (mkX s0 es bd ev) 0 := .inl ⟨rfl, Z, hj, by rw [← hs0]; exact mkX_vw hok, by rw [← hs0]; omega, bnf (by assumption)⟩
           refine c_skip (c_seq (c_region ?_))
           refine t_q (q_cast (v' := .agg (mkX s0 es bd ev).cells.toArray) (q_load_blk Try.isAgg114 Try.sizeOf114 rfl (hS.blk (by repeat constructor)) rfl) (by rfl)) ?_
           refine t_store (v := (.agg _)) Try.sizeOf114 hS (by repeat constructor) rfl rfl rfl rfl rfl rfl (fun w hS => ?_)
           refine t_q (q_assign) ?_
           refine t_nil (c_ret ?_)
           refine r_two rfl (res1_cellN Try.isAgg114 Try.sizeOf114 rfl (hS.blk (by repeat constructor)) rfl) rfl ?_
           first
             | exact ⟨zV, 20, rfl, zV_by, hno, zV_rds hS⟩
             | exact ⟨mkX s0 es bd ev, 0, rfl, mkX_by hok, hyes, mkX_rds hS (by repeat constructor) (by repeat constructor)⟩
     ·
      refine t_alloc Try.zeroValue114 rfl hS (fun g7 w hS => ?_)
      refine t_nil ?_
      refine ⟨.inr ⟨_, hS.pick (by repeat constructor)⟩, ?_⟩
      refine p_one 10 rfl (by kernel_rfl) ?_
      refine t_call Try.call82 (rm3 (s := s0) hS (by repeat constructor)) rfl ?_
      rintro e w ⟨rfl, hS⟩
      refine ⟨_, rfl, ?_⟩
      refine t_nil ?_
      refine ⟨.inr ⟨_, hS.pick (by repeat constructor)⟩, ?_⟩
      refine p_q hap hsel 11 rfl rfl ⟨_, hS.pick (by repeat constructor)⟩ (fun w hI => q_build (qs := [(0, 1), (1, 1), (2, 1), (3, 1), (4, 1), (5, 1), (6, 1), (7, 1), (8, 1), (9, 1), (10, 1), (11, 1), (12, 1)]) [(.int _ _), (.int _ _), (.int _ _), (.int _ _), (.int _ _), (.int _ _), (.int _ _), (.bool _), (.slice _ _ _), (.slice _ _ _), (.int _ _), (.int _ _), (.slice _ _ _)] Try.zeroValue114 Try.runUnderlying114 ⟨rfl, Try.sizeOf3, rfl, Try.sizeOf3, rfl, Try.sizeOf3, rfl, Try.sizeOf43, rfl, Try.sizeOf43, rfl, Try.sizeOf43, rfl, Try.sizeOf43, rfl, Try.sizeOf4, rfl, Try.sizeOf111, rfl, Try.sizeOf25, rfl, Try.sizeOf43, rfl, Try.sizeOf43, rfl, Try.sizeOf112, trivial⟩ rfl rfl) ?_
      refine p_one 13 rfl (by kernel_rfl) ?_
      refine t_store (v := (.agg _)) Try.sizeOf114 hS (by repeat constructor) rfl rfl rfl rfl rfl rfl (fun w hS => ?_)
      replace hS := hS.recast (show blkA g7 114 _ = ceA g7 114 s0 0 0 0 (false) (.slice none 0 0) (.slice none 0 0) 0 0 (.slice none 0 0) from rfl)
      refine t_nil ?_
      refine ⟨.inl (by kernel_rfl), ?_⟩
      refine p_end (by kernel_rfl) ?_
      refine c_seq (c_region ?_)
      refine t_q (q_fieldAddr 0 Try.runUnderlying114 rfl Try.sizeOf3 (by decide) rfl rfl) ?_
      refine t_q (q_load1 Try.isAgg3 rfl (hS.cell (by repeat constructor) rfl)) ?_
      refine t_call Try.call102 (fields_calls (n := ((m0 s0).1 : Int))) rfl ?_
      rintro e w ⟨rfl, hT⟩
      refine ⟨_, rfl, ?_⟩
      replace hS := hS.after hT
      refine t_alloc Try.zeroValue3 rfl hS (fun g8 w hS => ?_)
      refine t_store (v := (.int _ _)) Try.sizeOf3 hS (by repeat constructor) rfl rfl rfl rfl rfl rfl (fun w hS => ?_)
      replace hS := hS.recast (show blkA g8 3 _ = blkA g8 3 [.int .i64 (mv s0)] from rfl)
      refine t_nil (c_seq (c_region ?_))
      refine t_q (q_makeFunc rfl) ?_
      refine t_q (q_as (.func _ _ _) rfl) ?_
      refine t_nil (c_seq (c_region ?_))
      refine t_q (q_mv (.func _ _ _) rfl) ?_
      refine t_callv Try.call117 rfl (rn4 (s := s0) (((hS.pick (A := blkA g8 3 [.int .i64 (mv s0)]) (by repeat constructor)).pick (A := blkA g6 150 [.pointer (some ⟨g19, 0, none⟩)]) (by repeat constructor)).pick (A := rdrA w1 197 g19 _) (by repeat constructor))) rfl ?_
      rintro e w ⟨rfl, hS⟩
      refine ⟨_, rfl, ?_⟩
      refine t_q (q_cast (v' := .bool (decide ((m4 s0).1 = 1))) (q_eql rfl rfl) (congrArg Value.bool (decide_eq_decide.2 (by omega)))) ?_
      refine t_q (q_fieldAddr 7 Try.runUnderlying114 rfl Try.sizeOf4 (by decide) rfl rfl) ?_
      refine t_store (v := (.bool _)) Try.sizeOf4 hS (by repeat constructor) rfl rfl rfl rfl rfl rfl (fun w hS => ?_)
      replace hS := hS.recast (show blkA g7 114 _ = ceA g7 114 s0 0 0 0 (decide ((m4 s0).1 = 1)) (.slice none 0 0) (.slice none 0 0) 0 0 (.slice none 0 0) from rfl)
      refine t_nil (c_seq (c_region ?_))
      refine t_q (q_mv (.func _ _ _) rfl) ?_
      refine t_callv Try.call117 rfl (rn5 (s := s0) (((hS.pick (A := blkA g8 3 [.int .i64 (mv s0)]) (by repeat constructor)).pick (A := blkA g6 150 [.pointer (some ⟨g19, 0, none⟩)]) (by repeat constructor)).pick (A := rdrA w1 197 g19 _) (by repeat constructor))) rfl ?_
      rintro e w ⟨rfl, hS⟩
      refine ⟨_, rfl, ?_⟩
      refine t_q (q_mv (.func _ _ _) rfl) ?_
      refine t_callv Try.call117 rfl (rn6 (s := s0) (((hS.pick (A := blkA g8 3 [.int .i64 (mv s0)]) (by repeat constructor)).pick (A := blkA g6 150 [.pointer (some ⟨g19, 0, none⟩)]) (by repeat constructor)).pick (A := rdrA w1 197 g19 _) (by repeat constructor))) rfl ?_
      rintro e w ⟨rfl, hS⟩
      refine ⟨_, rfl, ?_⟩
      refine t_q (q_mv (.func _ _ _) rfl) ?_
      refine t_callv Try.call117 rfl (rn7 (s := s0) (((hS.pick (A := blkA g8 3 [.int .i64 (mv s0)]) (by repeat constructor)).pick (A := blkA g6 150 [.pointer (some ⟨g19, 0, none⟩)]) (by repeat constructor)).pick (A := rdrA w1 197 g19 _) (by repeat constructor))) rfl ?_
      rintro e w ⟨rfl, hS⟩
      refine ⟨_, rfl, ?_⟩
      refine t_q (q_fieldAddr 4 Try.runUnderlying114 rfl Try.sizeOf43 (by decide) rfl rfl) ?_
      refine t_store (v := (.int _ _)) Try.sizeOf43 hS (by repeat constructor) rfl rfl rfl rfl rfl rfl (fun w hS => ?_)
      replace hS := hS.recast (show blkA g7 114 _ = ceA g7 114 s0 ((m5 s0).1 : Int) 0 0 (decide ((m4 s0).1 = 1)) (.slice none 0 0) (.slice none 0 0) 0 0 (.slice none 0 0) from rfl)
      refine t_q (q_fieldAddr 5 Try.runUnderlying114 rfl Try.sizeOf43 (by decide) rfl rfl) ?_
      refine t_store (v := (.int _ _)) Try.sizeOf43 hS (by repeat constructor) rfl rfl rfl rfl rfl rfl (fun w hS => ?_)
      replace hS := hS.recast (show blkA g7 114 _ = ceA g7 114 s0 ((m5 s0).1 : Int) ((m6 s0).1 : Int) 0 (decide ((m4 s0).1 = 1)) (.slice none 0 0) (.slice none 0 0) 0 0 (.slice none 0 0) from rfl)
      refine t_q (q_fieldAddr 6 Try.runUnderlying114 rfl Try.sizeOf43 (by decide) rfl rfl) ?_
      refine t_store (v := (.int _ _)) Try.sizeOf43 hS (by repeat constructor) rfl rfl rfl rfl rfl rfl (fun w hS => ?_)
      replace hS := hS.recast (show blkA g7 114 _ = ceA g7 114 s0 ((m5 s0).1 : Int) ((m6 s0).1 : Int) ((m7 s0).1 : Int) (decide ((m4 s0).1 = 1)) (.slice none 0 0) (.slice none 0 0) 0 0 (.slice none 0 0) from rfl)
      refine t_nil (c_seq (c_seq (c_region ?_)))
      refine t_q (q_mv (.func _ _ _) rfl) ?_
      refine t_callv Try.call117 rfl (rn8 (s := s0) (((hS.pick (A := blkA g8 3 [.int .i64 (mv s0)]) (by repeat constructor)).pick (A := blkA g6 150 [.pointer (some ⟨g19, 0, none⟩)]) (by repeat constructor)).pick (A := rdrA w1 197 g19 _) (by repeat constructor))) rfl ?_
      rintro e w ⟨rfl, hS⟩
      refine ⟨_, rfl, ?_⟩
      refine t_q (q_move) ?_
      refine t_nil (c_block ?_)
      refine c_loop [51, 52, 53, 54, 55, 56, 57, 58, 59, 60, 61, 62, 63, 64, 65, 66] (fun k σ w => ∃ (j : Nat) (es : Sl EntV), σ 51 = .int .u64 (j : Int) ∧ es.l.map EntV.vw = (enk (m8 s0).2 j).1 ∧ (∀ e ∈ es.l, e.body.l.length ≤ e.body.c) ∧ es.l.length = j ∧ j ≤ (m8 s0).1 ∧ (m8 s0).1 - j ≤ k ∧ St w1 w [rdrA w1 197 g19 (enk (m8 s0).2 j).2, blkA g6 150 [.pointer (some ⟨g19, 0, none⟩)], blkA g8 3 [.int .i64 (mv s0)], ceA g7 114 s0 ((m5 s0).1 : Int) ((m6 s0).1 : Int) ((m7 s0).1 : Int) (decide ((m4 s0).1 = 1)) (.slice es.A es.l.length es.c) (.slice none 0 0) 0 0 (.slice none 0 0), rowA 169 3 es.A es.l.length es.c (es.l.flatMap EntV.cells), rdsA (es.l.map EntV.rp)]) ((m8 s0).1) rfl (⟨0, sl0, rfl, rfl, (fun e he => by cases he), rfl, by omega, by omega, (((((((hS.rds0.nilrow 169 3).pick (A := rdsA []) (by repeat constructor)).pick (A := rowA 169 3 none 0 0 []) (by repeat constructor)).pick (A := blkA g7 114 _) (by repeat constructor)).pick (A := blkA g8 3 [.int .i64 (mv s0)]) (by repeat constructor)).pick (A := blkA g6 150 [.pointer (some ⟨g19, 0, none⟩)]) (by repeat constructor)).pick (A := rdrA w1 197 g19 _) (by repeat constructor))⟩) ?_
      skip
      rintro k σ w ⟨j, es, h51, hes, hec, hel, hj8, hk, hS⟩
      refine c_know 51 h51 ?_
      clear h51
      refine c_seq (c_region ?_)
      refine t_q (q_lss rfl rfl) ?_
      refine t_nil (c_seq ?_)
      refine c_cond rfl ?_ ?_
      ·
       intro hc46
       have hc46d := of_decide_eq_true hc46
       refine c_skip (c_seq (c_block (c_draw ?_)))
       refine d_keep2 (blkA g6 150 [.pointer (some ⟨g19, 0, none⟩)]) (kA g7 s0 es) 14 [0, 1, 2, 3, 4, 5, 6, 7, 8, 9, 10, 11, 12, 13] [0, 1, 2, 3, 4, 5, 6, 7, 8, 9, 10, 11, 12, 13] hS rfl (by kernel_rfl) (by kernel_rfl) (by kernel_rfl) (by kernel_rfl) (fun hap hsel w hS => ?_)
       refine p_q hap hsel 0 rfl rfl ⟨_, ((hS.pick (A := kA g7 s0 es) (by repeat constructor)).pick (A := blkA g6 150 [.pointer (some ⟨g19, 0, none⟩)]) (by repeat constructor))⟩ (fun w hI => q_fieldAddr 8 Try.runUnderlying114 rfl Try.sizeOf111 (by decide) rfl rfl) ?_
       refine p_q hap hsel 1 rfl rfl ⟨_, ((hS.pick (A := kA g7 s0 es) (by repeat constructor)).pick (A := blkA g6 150 [.pointer (some ⟨g19, 0, none⟩)]) (by repeat constructor))⟩ (fun w hI => q_load1 Try.isAgg111 rfl (hI.choose_spec.cell (by repeat constructor) rfl)) ?_
       refine p_q hap hsel 2 rfl rfl ⟨_, ((hS.pick (A := kA g7 s0 es) (by repeat constructor)).pick (A := blkA g6 150 [.pointer (some ⟨g19, 0, none⟩)]) (by repeat constructor))⟩ (fun w hI => q_load1 Try.isAgg150 rfl (hI.choose_spec.cell (by repeat constructor) rfl)) ?_
       refine p_q hap hsel 4 rfl rfl ⟨_, ((hS.pick (A := kA g7 s0 es) (by repeat constructor)).pick (A := blkA g6 150 [.pointer (some ⟨g19, 0, none⟩)]) (by repeat constructor))⟩ (fun w hI => q_load1 Try.isAgg150 rfl (hI.choose_spec.cell (by repeat constructor) rfl)) ?_
       refine p_q hap hsel 6 rfl rfl ⟨_, ((hS.pick (A := kA g7 s0 es) (by repeat constructor)).pick (A := blkA g6 150 [.pointer (some ⟨g19, 0, none⟩)]) (by repeat constructor))⟩ (fun w hI => q_load1 Try.isAgg150 rfl (hI.choose_spec.cell (by repeat constructor) rfl)) ?_
       refine p_one 3 rfl (by kernel_rfl) ?_
       refine t_call Try.call82 (ren1 (s := (enk (m8 s0).2 j).2) hS (by repeat constructor)) rfl ?_
       rintro e w ⟨rfl, hS⟩
       refine ⟨_, rfl, ?_⟩
       refine t_nil ?_
       refine ⟨.inr ⟨_, ((hS.pick (A := kA g7 s0 es) (by repeat constructor)).pick (A := blkA g6 150 [.pointer (some ⟨g19, 0, none⟩)]) (by repeat constructor))⟩, ?_⟩
       refine p_one 5 rfl (by kernel_rfl) ?_
       refine t_call Try.call82 (ren2 (s := (enk (m8 s0).2 j).2) hS (by repeat constructor)) rfl ?_
       rintro e w ⟨rfl, hS⟩
       refine ⟨_, rfl, ?_⟩
       refine t_nil ?_
       refine ⟨.inr ⟨_, ((hS.pick (A := kA g7 s0 es) (by repeat constructor)).pick (A := blkA g6 150 [.pointer (some ⟨g19, 0, none⟩)]) (by repeat constructor))⟩, ?_⟩
       refine p_one 7 rfl (by kernel_rfl) ?_
       refine t_call Try.call118 (ren3 (s := (enk (m8 s0).2 j).2) hS (by repeat constructor)) rfl ?_
       rintro e w ⟨rfl, hS⟩
       refine ⟨_, rfl, ?_⟩
       refine t_nil ?_
       refine ⟨.inr ⟨_, ((hS.pick (A := kA g7 s0 es) (by repeat constructor)).pick (A := blkA g6 150 [.pointer (some ⟨g19, 0, none⟩)]) (by repeat constructor))⟩, ?_⟩
       refine p_one 8 rfl (by kernel_rfl) ?_
       refine t_bytes Try.underlying9 Try.underlying25 Try.underlying5 hS rfl (fun g61 k61 m61 w hS => ?_)
       replace hS := hS.recast (show blkA g61 5 _ (m61, m61 + 1) = blkA g61 5 ((en3 (enk (m8 s0).2 j).2).1.map bv ++ List.replicate k61 (.int .u8 0)) (m61, m61 + 1) from by simp)
       refine t_nil ?_
       refine ⟨.inr ⟨_, ((hS.pick (A := kA g7 s0 es) (by repeat constructor)).pick (A := blkA g6 150 [.pointer (some ⟨g19, 0, none⟩)]) (by repeat constructor))⟩, ?_⟩
       refine p_q hap hsel 9 rfl rfl ⟨_, ((hS.pick (A := kA g7 s0 es) (by repeat constructor)).pick (A := blkA g6 150 [.pointer (some ⟨g19, 0, none⟩)]) (by repeat constructor))⟩ (fun w hI => q_build (qs := [(0, 1), (1, 1), (2, 1)]) [(.int _ _), (.int _ _), (.slice _ _ _)] Try.zeroValue169 Try.runUnderlying169 ⟨rfl, Try.sizeOf43, rfl, Try.sizeOf43, rfl, Try.sizeOf25, trivial⟩ rfl rfl) ?_
       refine p_one 10 rfl (by kernel_rfl) ?_
       refine t_buildSlice Try.runUnderlying111 Try.sizeOf169 Try.zeroValue169 rfl rfl (by intro v hv; simp at hv; try (first | (subst hv; rfl) | (rcases hv with rfl | rfl <;> rfl))) (by decide) (by decide) hS (fun g63 w hS => ?_)
       refine t_nil ?_
       refine ⟨.inr ⟨_, ((hS.pick (A := kA g7 s0 es) (by repeat constructor)).pick (A := blkA g6 150 [.pointer (some ⟨g19, 0, none⟩)]) (by repeat constructor))⟩, ?_⟩
       refine p_one 11 rfl (by kernel_rfl) ?_
       refine t_append_own (size := 3) (bytes := 40) Try.underlying111 (info_of Try.type169) rfl rfl rfl rfl (by decide) hS (by repeat constructor) (by repeat constructor) rfl rfl (by first | exact allOne_bv _ | exact allOne_ints _ _ | rfl) (by unfold maxLen; omega) (by omega) (fun A64 c64 w hS => ?_)
       refine t_nil ?_
       refine ⟨.inr ⟨_, ((hS.pick (A := kA g7 s0 es) (by repeat constructor)).pick (A := blkA g6 150 [.pointer (some ⟨g19, 0, none⟩)]) (by repeat constructor))⟩, ?_⟩
       refine p_q hap hsel 12 rfl rfl ⟨_, ((hS.pick (A := kA g7 s0 es) (by repeat constructor)).pick (A := blkA g6 150 [.pointer (some ⟨g19, 0, none⟩)]) (by repeat constructor))⟩ (fun w hI => q_fieldAddr 8 Try.runUnderlying114 rfl Try.sizeOf111 (by decide) rfl rfl) ?_
       refine p_one 13 rfl (by kernel_rfl) ?_
       refine t_store (v := (.slice _ _ _)) Try.sizeOf111 hS (by repeat constructor) rfl rfl rfl rfl rfl rfl (fun w hS => ?_)
       replace hS := hS.recast (show blkA g7 114 _ = ceA g7 114 s0 ((m5 s0).1 : Int) ((m6 s0).1 : Int) ((m7 s0).1 : Int) (decide ((m4 s0).1 = 1)) (.slice A64 (es.l.length + 1) c64) (.slice none 0 0) 0 0 (.slice none 0 0) from rfl)
       refine t_nil ?_
       refine ⟨.inl (by kernel_rfl), ?_⟩
       refine p_end (by kernel_rfl) ?_
       refine c_region ?_
       refine t_q (q_add_u64 rfl rfl (by omega)) ?_
       refine t_q (q_mv (.int _ _) rfl) ?_
       refine t_nil ?_
       obtain ⟨es', h1, h2, h3, h4⟩ := rd_round (es := es) (k61 := k61) hes hec hel (((((((hS.pick (A := rdsA (es.l.map EntV.rp)) (by repeat constructor)).pick (A := blkA g61 5 _ (m61, m61 + 1)) (by repeat constructor)).pick (A := rowA 169 3 A64 _ c64 _) (by repeat constructor)).pick (A := blkA g7 114 _) (by repeat constructor)).pick (A := blkA g8 3 [.int .i64 (mv s0)]) (by repeat constructor)).pick (A := blkA g6 150 [.pointer (some ⟨g19, 0, none⟩)]) (by repeat constructor)).pick (A := rdrA w1 197 g19 _) (by repeat constructor))
       exact ⟨k - 1, by omega, j + 1, es', rfl, h1, h2, h3, by omega, by omega, h4⟩
      ·
       intro hc46
       have hc46d := of_decide_eq_false hc46
       obtain rfl : j = (m8 s0).1 := by omega
       refine c_exit ?_
       refine ite_t rfl ?_
       refine c_cut [67, 68, 69, 70, 71, 72, 73] (fun σ w => ∃ bd : Sl UInt8, bd.l = (m10 s0).1 ∧ bd.l.length ≤ bd.c ∧ St w1 w [rdrA w1 197 g19 (m10 s0).2, blkA g6 150 [.pointer (some ⟨g19, 0, none⟩)], blkA g8 3 [.int .i64 (mv s0)], ceA g7 114 s0 ((m5 s0).1 : Int) ((m6 s0).1 : Int) ((m7 s0).1 : Int) (decide ((m4 s0).1 = 1)) (.slice es.A es.l.length es.c) (.slice bd.A bd.l.length bd.c) 0 0 (.slice none 0 0), rowA 169 3 es.A es.l.length es.c (es.l.flatMap EntV.cells), rdsA (brp bd :: es.l.map EntV.rp)]) rfl ?_ ?_
       ·
        refine c_seq (c_region ?_)
        refine t_q (q_load1 Try.isAgg3 rfl (hS.cell (by repeat constructor) rfl)) ?_
        refine t_q (q_and rfl rfl) ?_
        refine t_q (q_cast (v' := .bool (hasF (mv s0) 32)) (q_neq rfl rfl) (congrArg Value.bool (and_ne (and_fl_32 _)))) ?_
        refine t_nil ?_
        refine c_cond rfl ?_ ?_
        ·
         intro hc51
         have hc51d := of_decide_eq_true hc51
         have hb32 : hasF (mv s0) 32 = true := hc51
         refine c_region ?_
         refine t_q (q_load1 Try.isAgg150 rfl (hS.cell (by repeat constructor) rfl)) ?_
         refine t_call Try.call118 (rm10 (s := s0) hb32 hS (by repeat constructor)) rfl ?_
         rintro e w ⟨rfl, hS⟩
         refine ⟨_, rfl, ?_⟩
         refine t_bytes Try.underlying9 Try.underlying25 Try.underlying5 hS rfl (fun g72 k72 m72 w hS => ?_)
         replace hS := hS.recast (show blkA g72 5 _ (m72, m72 + 1) = blkA g72 5 ((m10 s0).1.map bv ++ List.replicate k72 (.int .u8 0)) (m72, m72 + 1) from by simp)
         refine t_q (q_fieldAddr 9 Try.runUnderlying114 rfl Try.sizeOf25 (by decide) rfl rfl) ?_
         refine t_store (v := (.slice _ _ _)) Try.sizeOf25 hS (by repeat constructor) rfl rfl rfl rfl rfl rfl (fun w hS => ?_)
         replace hS := hS.recast (show blkA g7 114 _ = ceA g7 114 s0 ((m5 s0).1 : Int) ((m6 s0).1 : Int) ((m7 s0).1 : Int) (decide ((m4 s0).1 = 1)) (.slice es.A es.l.length es.c) (.slice (⟨some ⟨g72, 0, none⟩, (m10 s0).1.length + k72, (m10 s0).1⟩ : Sl UInt8).A (⟨some ⟨g72, 0, none⟩, (m10 s0).1.length + k72, (m10 s0).1⟩ : Sl UInt8).l.length (⟨some ⟨g72, 0, none⟩, (m10 s0).1.length + k72, (m10 s0).1⟩ : Sl UInt8).c) 0 0 (.slice none 0 0) from rfl)
         refine t_nil ?_
         first
           | exact ⟨⟨some ⟨g72, 0, none⟩, (m10 s0).1.length + k72, (m10 s0).1⟩, rfl, Nat.le_add_right _ _, (((((((((hS.pick (A := rdsA (es.l.map EntV.rp)) (by repeat constructor)).pick (A := blkA g72 5 _ (m72, m72 + 1)) (by repeat constructor)).frz_add).pick (A := rdsA _) (by repeat constructor)).pick (A := rowA 169 3 es.A es.l.length es.c (es.l.flatMap EntV.cells)) (by repeat constructor)).pick (A := blkA g7 114 _) (by repeat constructor)).pick (A := blkA g8 3 [.int .i64 (mv s0)]) (by repeat constructor)).pick (A := blkA g6 150 [.pointer (some ⟨g19, 0, none⟩)]) (by repeat constructor)).pick (A := rdrA w1 197 g19 _) (by repeat constructor))⟩
           | (have e10 : m10 s0 = ([], (m9 s0).2) := by unfold m10 oqT; rw [hb32]; rfl
              rw [e10]
              exact ⟨sl0, rfl, Nat.le_refl _, (((((((((((hS.nilrow 5 1).pick (A := rdsA (es.l.map EntV.rp)) (by repeat constructor)).pick (A := rowA 5 1 none 0 0 []) (by repeat constructor))).rds_add (f := bsf []) (Rd.none_ _ _ _ _)).pick (A := rdsA _) (by repeat constructor)).pick (A := rowA 169 3 es.A es.l.length es.c (es.l.flatMap EntV.cells)) (by repeat constructor)).pick (A := blkA g7 114 _) (by repeat constructor)).pick (A := blkA g8 3 [.int .i64 (mv s0)]) (by repeat constructor)).pick (A := blkA g6 150 [.pointer (some ⟨g19, 0, none⟩)]) (by repeat constructor)).pick (A := rdrA w1 197 g19 _) (by repeat constructor))⟩)
        ·
         intro hc51
         have hc51d := of_decide_eq_false hc51
         have hb32 : hasF (mv s0) 32 = false := hc51
         refine c_skip ?_
         first
           | exact ⟨⟨some ⟨g72, 0, none⟩, (m10 s0).1.length + k72, (m10 s0).1⟩, rfl, Nat.le_add_right _ _, (((((((((hS.pick (A := rdsA (es.l.map EntV.rp)) (by repeat constructor)).pick (A := blkA g72 5 _ (m72, m72 + 1)) (by repeat constructor)).frz_add).pick (A := rdsA _) (by repeat constructor)).pick (A := rowA 169 3 es.A es.l.length es.c (es.l.flatMap EntV.cells)) (by repeat constructor)).pick (A := blkA g7 114 _) (by repeat constructor)).pick (A := blkA g8 3 [.int .i64 (mv s0)]) (by repeat constructor)).pick (A := blkA g6 150 [.pointer (some ⟨g19, 0, none⟩)]) (by repeat constructor)).pick (A := rdrA w1 197 g19 _) (by repeat constructor))⟩
           | (have e10 : m10 s0 = ([], (m9 s0).2) := by unfold m10 oqT; rw [hb32]; rfl
              rw [e10]
              exact ⟨sl0, rfl, Nat.le_refl _, (((((((((((hS.nilrow 5 1).pick (A := rdsA (es.l.map EntV.rp)) (by repeat constructor)).pick (A := rowA 5 1 none 0 0 []) (by repeat constructor))).rds_add (f := bsf []) (Rd.none_ _ _ _ _)).pick (A := rdsA _) (by repeat constructor)).pick (A := rowA 169 3 es.A es.l.length es.c (es.l.flatMap EntV.cells)) (by repeat constructor)).pick (A := blkA g7 114 _) (by repeat constructor)).pick (A := blkA g8 3 [.int .i64 (mv s0)]) (by repeat constructor)).pick (A := blkA g6 150 [.pointer (some ⟨g19, 0, none⟩)]) (by repeat constructor)).pick (A := rdrA w1 197 g19 _) (by repeat constructor))⟩)
       ·
        rintro σ w ⟨bd, hbd, hbc, hS⟩
        refine c_seq (c_region ?_)
        refine t_q (q_mv (.func _ _ _) rfl) ?_
        refine t_callv Try.call117 rfl (rn11 (s := s0) (((hS.pick (A := blkA g8 3 [.int .i64 (mv s0)]) (by repeat constructor)).pick (A := blkA g6 150 [.pointer (some ⟨g19, 0, none⟩)]) (by repeat constructor)).pick (A := rdrA w1 197 g19 _) (by repeat constructor))) rfl ?_
        rintro e w ⟨rfl, hS⟩
        refine ⟨_, rfl, ?_⟩
        refine t_q (q_mv (.func _ _ _) rfl) ?_
        refine t_callv Try.call117 rfl (rn12 (s := s0) (((hS.pick (A := blkA g8 3 [.int .i64 (mv s0)]) (by repeat constructor)).pick (A := blkA g6 150 [.pointer (some ⟨g19, 0, none⟩)]) (by repeat constructor)).pick (A := rdrA w1 197 g19 _) (by repeat constructor))) rfl ?_
        rintro e w ⟨rfl, hS⟩
        refine ⟨_, rfl, ?_⟩
        refine t_q (q_fieldAddr 10 Try.runUnderlying114 rfl Try.sizeOf43 (by decide) rfl rfl) ?_
        refine t_store (v := (.int _ _)) Try.sizeOf43 hS (by repeat constructor) rfl rfl rfl rfl rfl rfl (fun w hS => ?_)
        replace hS := hS.recast (show blkA g7 114 _ = ceA g7 114 s0 ((m5 s0).1 : Int) ((m6 s0).1 : Int) ((m7 s0).1 : Int) (decide ((m4 s0).1 = 1)) (.slice es.A es.l.length es.c) (.slice bd.A bd.l.length bd.c) ((m11 s0).1 : Int) 0 (.slice none 0 0) from rfl)
        refine t_q (q_fieldAddr 11 Try.runUnderlying114 rfl Try.sizeOf43 (by decide) rfl rfl) ?_
        refine t_store (v := (.int _ _)) Try.sizeOf43 hS (by repeat constructor) rfl rfl rfl rfl rfl rfl (fun w hS => ?_)
        replace hS := hS.recast (show blkA g7 114 _ = ceA g7 114 s0 ((m5 s0).1 : Int) ((m6 s0).1 : Int) ((m7 s0).1 : Int) (decide ((m4 s0).1 = 1)) (.slice es.A es.l.length es.c) (.slice bd.A bd.l.length bd.c) ((m11 s0).1 : Int) ((m12 s0).1 : Int) (.slice none 0 0) from rfl)
        refine t_nil ?_
        refine c_cut [80, 81, 82, 83, 84, 85, 86, 87, 88] (fun σ w => ∃ ev : Sl Ev, ev.l = (m13 s0).1 ∧ St w1 w [rdrA w1 197 g19 (m13 s0).2, blkA g6 150 [.pointer (some ⟨g19, 0, none⟩)], blkA g8 3 [.int .i64 (mv s0)], ceA g7 114 s0 ((m5 s0).1 : Int) ((m6 s0).1 : Int) ((m7 s0).1 : Int) (decide ((m4 s0).1 = 1)) (.slice es.A es.l.length es.c) (.slice bd.A bd.l.length bd.c) ((m11 s0).1 : Int) ((m12 s0).1 : Int) (.slice ev.A ev.l.length ev.c), rowA 169 3 es.A es.l.length es.c (es.l.flatMap EntV.cells), rdsA (erp ev :: brp bd :: es.l.map EntV.rp)]) rfl ?_ ?_
        ·
         refine c_seq (c_region ?_)
         refine t_q (q_load1 Try.isAgg3 rfl (hS.cell (by repeat constructor) rfl)) ?_
         refine t_q (q_and rfl rfl) ?_
         refine t_q (q_cast (v' := .bool (hasF (mv s0) 64)) (q_neq rfl rfl) (congrArg Value.bool (and_ne (and_fl_64 _)))) ?_
         refine t_nil ?_
         refine c_cond rfl ?_ ?_
         ·
          intro hc56
          have hc56d := of_decide_eq_true hc56
          have hb64 : hasF (mv s0) 64 = true := hc56
          refine c_region ?_
          refine t_q (q_load1 Try.isAgg150 rfl (hS.cell (by repeat constructor) rfl)) ?_
          refine t_call Try.call119 (eread_calls (s := (m12 s0).2) hS (by repeat constructor) (m12_wf (by rw [hs0]; intro h; cases h))) rfl ?_
          rintro e w ⟨A85, n85, c85, rfl, hn85, hS⟩
          refine ⟨_, rfl, ?_⟩
          subst hn85
          refine t_q (q_mv (.tuple _) rfl) ?_
          refine t_q (q_extract rfl rfl) ?_
          refine t_q (q_extract rfl rfl) ?_
          refine t_q (q_fieldAddr 12 Try.runUnderlying114 rfl Try.sizeOf112 (by decide) rfl rfl) ?_
          refine t_store (v := (.slice _ _ _)) Try.sizeOf112 hS (by repeat constructor) rfl rfl rfl rfl rfl rfl (fun w hS => ?_)
          replace hS := hS.recast (show blkA g7 114 _ = ceA g7 114 s0 ((m5 s0).1 : Int) ((m6 s0).1 : Int) ((m7 s0).1 : Int) (decide ((m4 s0).1 = 1)) (.slice es.A es.l.length es.c) (.slice bd.A bd.l.length bd.c) ((m11 s0).1 : Int) ((m12 s0).1 : Int) (.slice (⟨A85, c85, evL (m12 s0).2⟩ : Sl Ev).A (⟨A85, c85, evL (m12 s0).2⟩ : Sl Ev).l.length (⟨A85, c85, evL (m12 s0).2⟩ : Sl Ev).c) from rfl)
          refine t_nil ?_
          first
            | (have e13 : m13 s0 = (evL (m12 s0).2, evS (m12 s0).2) := by unfold m13 oqE; rw [hb64]; rfl
               rw [e13]
               exact ⟨⟨A85, c85, evL (m12 s0).2⟩, rfl, ((((((((((hS.pick (A := rdsA (brp bd :: es.l.map EntV.rp)) (by repeat constructor)).pick (A := rowA 206 12 A85 _ c85 _) (by repeat constructor))).rds_add (f := evf (evL (m12 s0).2)) (rowRdE hS (by repeat constructor) rfl)).pick (A := rdsA _) (by repeat constructor)).pick (A := rowA 169 3 es.A es.l.length es.c (es.l.flatMap EntV.cells)) (by repeat constructor)).pick (A := blkA g7 114 _) (by repeat constructor)).pick (A := blkA g8 3 [.int .i64 (mv s0)]) (by repeat constructor)).pick (A := blkA g6 150 [.pointer (some ⟨g19, 0, none⟩)]) (by repeat constructor)).pick (A := rdrA w1 197 g19 _) (by repeat constructor))⟩)
            | (have e13 : m13 s0 = ([], (m12 s0).2) := by unfold m13 oqE; rw [hb64]; rfl
               rw [e13]
               exact ⟨sl0, rfl, (((((((((((hS.nilrow 206 12).pick (A := rdsA (brp bd :: es.l.map EntV.rp)) (by repeat constructor)).pick (A := rowA 206 12 none 0 0 []) (by repeat constructor))).rds_add (f := evf []) (Rd.none_ _ _ _ _)).pick (A := rdsA _) (by repeat constructor)).pick (A := rowA 169 3 es.A es.l.length es.c (es.l.flatMap EntV.cells)) (by repeat constructor)).pick (A := blkA g7 114 _) (by repeat constructor)).pick (A := blkA g8 3 [.int .i64 (mv s0)]) (by repeat constructor)).pick (A := blkA g6 150 [.pointer (some ⟨g19, 0, none⟩)]) (by repeat constructor)).pick (A := rdrA w1 197 g19 _) (by repeat constructor))⟩)
         ·
          intro hc56
          have hc56d := of_decide_eq_false hc56
          have hb64 : hasF (mv s0) 64 = false := hc56
          refine c_skip ?_
          first
            | (have e13 : m13 s0 = (evL (m12 s0).2, evS (m12 s0).2) := by unfold m13 oqE; rw [hb64]; rfl
               rw [e13]
               exact ⟨⟨A85, c85, evL (m12 s0).2⟩, rfl, ((((((((((hS.pick (A := rdsA (brp bd :: es.l.map EntV.rp)) (by repeat constructor)).pick (A := rowA 206 12 A85 _ c85 _) (by repeat constructor))).rds_add (f := evf (evL (m12 s0).2)) (rowRdE hS (by repeat constructor) rfl)).pick (A := rdsA _) (by repeat constructor)).pick (A := rowA 169 3 es.A es.l.length es.c (es.l.flatMap EntV.cells)) (by repeat constructor)).pick (A := blkA g7 114 _) (by repeat constructor)).pick (A := blkA g8 3 [.int .i64 (mv s0)]) (by repeat constructor)).pick (A := blkA g6 150 [.pointer (some ⟨g19, 0, none⟩)]) (by repeat constructor)).pick (A := rdrA w1 197 g19 _) (by repeat constructor))⟩)
            | (have e13 : m13 s0 = ([], (m12 s0).2) := by unfold m13 oqE; rw [hb64]; rfl
               rw [e13]
               exact ⟨sl0, rfl, (((((((((((hS.nilrow 206 12).pick (A := rdsA (brp bd :: es.l.map EntV.rp)) (by repeat constructor)).pick (A := rowA 206 12 none 0 0 []) (by repeat constructor))).rds_add (f := evf []) (Rd.none_ _ _ _ _)).pick (A := rdsA _) (by repeat constructor)).pick (A := rowA 169 3 es.A es.l.length es.c (es.l.flatMap EntV.cells)) (by repeat constructor)).pick (A := blkA g7 114 _) (by repeat constructor)).pick (A := blkA g8 3 [.int .i64 (mv s0)]) (by repeat constructor)).pick (A := blkA g6 150 [.pointer (some ⟨g19, 0, none⟩)]) (by repeat constructor)).pick (A := rdrA w1 197 g19 _) (by repeat constructor))⟩)
        ·
         rintro σ w ⟨ev, hev, hS⟩
         have hok : PtOk s0 es bd ev := ⟨hes, hec, hbd, hbc, hev⟩
         refine c_seq (c_seq (c_region ?_))
         refine t_q (q_load1 Try.isAgg150 rfl (hS.cell (by repeat constructor) rfl)) ?_
         refine t_call Try.call83 (rEnd hS (by repeat constructor)) rfl ?_
         rintro e w ⟨rfl, hS⟩
         refine ⟨_, rfl, ?_⟩
         have hS : St W w (_ :: _) := hS0.lift hS
         refine t_q (q_neq rfl rfl) ?_
         refine t_q (q_mv (.bool _) rfl) ?_
         refine t_case 92 rfl ?_ ?_
         ·
          intro hg62
          have hg62d := of_decide_eq_true hg62
          refine t_no rfl rfl (by rw [hg62]; decide) ?_
          refine t_no rfl rfl (by rw [hg62]; decide) ?_
          refine t_no rfl rfl (by rw [hg62]; decide) ?_
          refine t_q (q_pick_t rfl hg62) ?_
          refine t_nil ?_
          refine c_cond_t rfl rfl ?_
          have hno : RdOut bs zV 20 := by
            refine .inr ⟨rfl, rfl, fun Z' hj' he y hy => ?_⟩
            obtain rfl : Z = Z' := by rw [hj] at hj'; injection hj'
            rw [← hs0] at he hy
            first
              | (exfalso; omega)
              | (rw [soundB_vw (hy.trans (mkX_vw hok).symm)]; exact bnt (by assumption))
          refine c_seq (c_region ?_)
          refine t_q (q_build (qs := [(0, 1), (1, 1), (2, 1), (3, 1), (4, 1), (5, 1), (6, 1), (7, 1), (8, 1), (9, 1), (10, 1), (11, 1), (12, 1)]) [(.int _ _), (.int _ _), (.int _ _), (.int _ _), (.int _ _), (.int _ _), (.int _ _), (.bool _), (.slice _ _ _), (.slice _ _ _), (.int _ _), (.int _ _), (.slice _ _ _)] Try.zeroValue114 Try.runUnderlying114 ⟨rfl, Try.sizeOf3, rfl, Try.sizeOf3, rfl, Try.sizeOf3, rfl, Try.sizeOf43, rfl, Try.sizeOf43, rfl, Try.sizeOf43, rfl, Try.sizeOf43, rfl, Try.sizeOf4, rfl, Try.sizeOf111, rfl, Try.sizeOf25, rfl, Try.sizeOf43, rfl, Try.sizeOf43, rfl, Try.sizeOf112, trivial⟩ rfl rfl) ?_
          refine t_store (v := (.agg _)) Try.sizeOf114 hS (by repeat constructor) rfl rfl rfl rfl rfl rfl (fun w hS => ?_)
          refine t_q (q_assign) ?_
          refine t_nil (c_ret ?_)
          refine r_two rfl (res1_cellN Try.isAgg114 Try.sizeOf114 rfl (hS.blk (by repeat constructor)) rfl) rfl ?_
          first
            | exact ⟨zV, 20, rfl, zV_by, hno, zV_rds hS⟩
            | exact ⟨mkX s0 es bd ev, 0, rfl, mkX_by hok, hyes, mkX_rds hS (by repeat constructor) (by repeat constructor)⟩
         ·
          intro hg62
          have hg62d := of_decide_eq_false hg62
          refine t_yes rfl rfl hg62 ?_
          refine t_q (q_cast (v' := .agg (mkX s0 es bd ev).cells.toArray) (q_load_blk Try.isAgg114 Try.sizeOf114 rfl (hS.blk (by repeat constructor)) rfl) (by rfl)) ?_
          refine t_yes rfl rfl hg62 ?_
          have hXg : (mkX s0 es bd ev).Gd w := mkX_gd hok hS (by repeat constructor) (by repeat constructor)
          refine t_call Try.call59 (wsound_calls (x := mkX s0 es bd ev) hXg) rfl ?_
          rintro e w ⟨rfl, hT⟩
          refine ⟨_, rfl, ?_⟩
          replace hS := hS.after hT
          refine t_yes rfl rfl hg62 ?_
          refine t_q (q_not rfl) ?_
          refine t_q (q_pick_f rfl hg62) ?_
          refine t_nil ?_
          refine c_cond rfl ?_ ?_
          ·
           intro hc64
           have hno : RdOut bs zV 20 := by
             refine .inr ⟨rfl, rfl, fun Z' hj' he y hy => ?_⟩
             obtain rfl : Z = Z' := by rw [hj] at hj'; injection hj'
             rw [← hs0] at he hy
             first
               | (exfalso; omega)
               | (rw [soundB_vw (hy.trans (mkX_vw hok).symm)]; exact bnt (by assumption))
           refine c_seq (c_region ?_)
           refine t_q (q_build (qs := [(0, 1), (1, 1), (2, 1), (3, 1), (4, 1), (5, 1), (6, 1), (7, 1), (8, 1), (9, 1), (10, 1), (11, 1), (12, 1)]) [(.int _ _), (.int _ _), (.int _ _), (.int _ _), (.int _ _), (.int _ _), (.int _ _), (.bool _), (.slice _ _ _), (.slice _ _ _), (.int _ _), (.int _ _), (.slice _ _ _)] Try.zeroValue114 Try.runUnderlying114 ⟨rfl, Try.sizeOf3, rfl, Try.sizeOf3, rfl, Try.sizeOf3, rfl, Try.sizeOf43, rfl, Try.sizeOf43, rfl, Try.sizeOf43, rfl, Try.sizeOf43, rfl, Try.sizeOf4, rfl, Try.sizeOf111, rfl, Try.sizeOf25, rfl, Try.sizeOf43, rfl, Try.sizeOf43, rfl, Try.sizeOf112, trivial⟩ rfl rfl) ?_
           refine t_store (v := (.agg _)) Try.sizeOf114 hS (by repeat constructor) rfl rfl rfl rfl rfl rfl (fun w hS => ?_)
           refine t_q (q_assign) ?_
           refine t_nil (c_ret ?_)
           refine r_two rfl (res1_cellN Try.isAgg114 Try.sizeOf114 rfl (hS.blk (by repeat constructor)) rfl) rfl ?_
           first
             | exact ⟨zV, 20, rfl, zV_by, hno, zV_rds hS⟩
             | exact ⟨mkX s0 es bd ev, 0, rfl, mkX_by hok, hyes, mkX_rds hS (by repeat constructor) (by repeat constructor)⟩
          ·
           intro hc64
           have hyes : RdOut bs (mkX s0 es bd ev) 0 := .inl ⟨rfl, Z, hj, by rw [← hs0]; exact mkX_vw hok, by rw [← hs0]; omega, bnf (by assumption)⟩
           refine c_skip (c_seq (c_region ?_))
           refine t_q (q_cast (v' := .agg (mkX s0 es bd ev).cells.toArray) (q_load_blk Try.isAgg114 Try.sizeOf114 rfl (hS.blk (by repeat constructor)) rfl) (by rfl)) ?_
           refine t_store (v := (.agg _)) Try.sizeOf114 hS (by repeat constructor) rfl rfl rfl rfl rfl rfl (fun w hS => ?_)
           refine t_q (q_assign) ?_
           refine t_nil (c_ret ?_)
           refine r_two rfl (res1_cellN Try.isAgg114 Try.sizeOf114 rfl (hS.blk (by repeat constructor)) rfl) rfl ?_
           first
             | exact ⟨zV, 20, rfl, zV_by, hno, zV_rds hS⟩
             | exact ⟨mkX s0 es bd ev, 0, rfl, mkX_by hok, hyes, mkX_rds hS (by repeat constructor) (by repeat constructor)⟩
    ·
     refine t_alloc Try.zeroValue114 rfl hS (fun g7 w hS => ?_)
     refine t_nil ?_
     refine ⟨.inr ⟨_, hS.pick (by repeat constructor)⟩, ?_⟩
     refine p_one 7 rfl (by kernel_rfl) ?_
     refine t_call Try.call82 (rm2 (s := s0) hS (by repeat constructor)) rfl ?_
     rintro e w ⟨rfl, hS⟩
     refine ⟨_, rfl, ?_⟩
     refine t_nil ?_
     refine ⟨.inr ⟨_, hS.pick (by repeat constructor)⟩, ?_⟩
     refine p_q hap hsel 8 rfl rfl ⟨_, hS.pick (by repeat constructor)⟩ (fun w hI => q_conv_i64 Try.runUnderlying43 Try.runUnderlying3 rfl (by omega)) ?_
     refine p_one 10 rfl (by kernel_rfl) ?_
     refine t_call Try.call82 (rm3 (s := s0) hS (by repeat constructor)) rfl ?_
     rintro e w ⟨rfl, hS⟩
     refine ⟨_, rfl, ?_⟩
     refine t_nil ?_
     refine ⟨.inr ⟨_, hS.pick (by repeat constructor)⟩, ?_⟩
     refine p_q hap hsel 11 rfl rfl ⟨_, hS.pick (by repeat constructor)⟩ (fun w hI => q_build (qs := [(0, 1), (1, 1), (2, 1), (3, 1), (4, 1), (5, 1), (6, 1), (7, 1), (8, 1), (9, 1), (10, 1), (11, 1), (12, 1)]) [(.int _ _), (.int _ _), (.int _ _), (.int _ _), (.int _ _), (.int _ _), (.int _ _), (.bool _), (.slice _ _ _), (.slice _ _ _), (.int _ _), (.int _ _), (.slice _ _ _)] Try.zeroValue114 Try.runUnderlying114 ⟨rfl, Try.sizeOf3, rfl, Try.sizeOf3, rfl, Try.sizeOf3, rfl, Try.sizeOf43, rfl, Try.sizeOf43, rfl, Try.sizeOf43, rfl, Try.sizeOf43, rfl, Try.sizeOf4, rfl, Try.sizeOf111, rfl, Try.sizeOf25, rfl, Try.sizeOf43, rfl, Try.sizeOf43, rfl, Try.sizeOf112, trivial⟩ rfl rfl) ?_
     refine p_one 13 rfl (by kernel_rfl) ?_
     refine t_store (v := (.agg _)) Try.sizeOf114 hS (by repeat constructor) rfl rfl rfl rfl rfl rfl (fun w hS => ?_)
     replace hS := hS.recast (show blkA g7 114 _ = ceA g7 114 s0 0 0 0 (false) (.slice none 0 0) (.slice none 0 0) 0 0 (.slice none 0 0) from rfl)
     refine t_nil ?_
     refine ⟨.inl (by kernel_rfl), ?_⟩
     refine p_end (by kernel_rfl) ?_
     refine c_seq (c_region ?_)
     refine t_q (q_fieldAddr 0 Try.runUnderlying114 rfl Try.sizeOf3 (by decide) rfl rfl) ?_
     refine t_q (q_load1 Try.isAgg3 rfl (hS.cell (by repeat constructor) rfl)) ?_
     refine t_call Try.call102 (fields_calls (n := ((m0 s0).1 : Int))) rfl ?_
     rintro e w ⟨rfl, hT⟩
     refine ⟨_, rfl, ?_⟩
     replace hS := hS.after hT
     refine t_alloc Try.zeroValue3 rfl hS (fun g8 w hS => ?_)
     refine t_store (v := (.int _ _)) Try.sizeOf3 hS (by repeat constructor) rfl rfl rfl rfl rfl rfl (fun w hS => ?_)
     replace hS := hS.recast (show blkA g8 3 _ = blkA g8 3 [.int .i64 (mv s0)] from rfl)
     refine t_nil (c_seq (c_region ?_))
     refine t_q (q_makeFunc rfl) ?_
     refine t_q (q_as (.func _ _ _) rfl) ?_
     refine t_nil (c_seq (c_region ?_))
     refine t_q (q_mv (.func _ _ _) rfl) ?_
     refine t_callv Try.call117 rfl (rn4 (s := s0) (((hS.pick (A := blkA g8 3 [.int .i64 (mv s0)]) (by repeat constructor)).pick (A := blkA g6 150 [.pointer (some ⟨g19, 0, none⟩)]) (by repeat constructor)).pick (A := rdrA w1 197 g19 _) (by repeat constructor))) rfl ?_
     rintro e w ⟨rfl, hS⟩
     refine ⟨_, rfl, ?_⟩
     refine t_q (q_cast (v' := .bool (decide ((m4 s0).1 = 1))) (q_eql rfl rfl) (congrArg Value.bool (decide_eq_decide.2 (by omega)))) ?_
     refine t_q (q_fieldAddr 7 Try.runUnderlying114 rfl Try.sizeOf4 (by decide) rfl rfl) ?_
     refine t_store (v := (.bool _)) Try.sizeOf4 hS (by repeat constructor) rfl rfl rfl rfl rfl rfl (fun w hS => ?_)
     replace hS := hS.recast (show blkA g7 114 _ = ceA g7 114 s0 0 0 0 (decide ((m4 s0).1 = 1)) (.slice none 0 0) (.slice none 0 0) 0 0 (.slice none 0 0) from rfl)
     refine t_nil (c_seq (c_region ?_))
     refine t_q (q_mv (.func _ _ _) rfl) ?_
     refine t_callv Try.call117 rfl (rn5 (s := s0) (((hS.pick (A := blkA g8 3 [.int .i64 (mv s0)]) (by repeat constructor)).pick (A := blkA g6 150 [.pointer (some ⟨g19, 0, none⟩)]) (by repeat constructor)).pick (A := rdrA w1 197 g19 _) (by repeat constructor))) rfl ?_
     rintro e w ⟨rfl, hS⟩
     refine ⟨_, rfl, ?_⟩
     refine t_q (q_mv (.func _ _ _) rfl) ?_
     refine t_callv Try.call117 rfl (rn6 (s := s0) (((hS.pick (A := blkA g8 3 [.int .i64 (mv s0)]) (by repeat constructor)).pick (A := blkA g6 150 [.pointer (some ⟨g19, 0, none⟩)]) (by repeat constructor)).pick (A := rdrA w1 197 g19 _) (by repeat constructor))) rfl ?_
     rintro e w ⟨rfl, hS⟩
     refine ⟨_, rfl, ?_⟩
     refine t_q (q_mv (.func _ _ _) rfl) ?_
     refine t_callv Try.call117 rfl (rn7 (s := s0) (((hS.pick (A := blkA g8 3 [.int .i64 (mv s0)]) (by repeat constructor)).pick (A := blkA g6 150 [.pointer (some ⟨g19, 0, none⟩)]) (by repeat constructor)).pick (A := rdrA w1 197 g19 _) (by repeat constructor))) rfl ?_
     rintro e w ⟨rfl, hS⟩
     refine ⟨_, rfl, ?_⟩
     refine t_q (q_fieldAddr 4 Try.runUnderlying114 rfl Try.sizeOf43 (by decide) rfl rfl) ?_
     refine t_store (v := (.int _ _)) Try.sizeOf43 hS (by repeat constructor) rfl rfl rfl rfl rfl rfl (fun w hS => ?_)
     replace hS := hS.recast (show blkA g7 114 _ = ceA g7 114 s0 ((m5 s0).1 : Int) 0 0 (decide ((m4 s0).1 = 1)) (.slice none 0 0) (.slice none 0 0) 0 0 (.slice none 0 0) from rfl)
     refine t_q (q_fieldAddr 5 Try.runUnderlying114 rfl Try.sizeOf43 (by decide) rfl rfl) ?_
     refine t_store (v := (.int _ _)) Try.sizeOf43 hS (by repeat constructor) rfl rfl rfl rfl rfl rfl (fun w hS => ?_)
     replace hS := hS.recast (show blkA g7 114 _ = ceA g7 114 s0 ((m5 s0).1 : Int) ((m6 s0).1 : Int) 0 (decide ((m4 s0).1 = 1)) (.slice none 0 0) (.slice none 0 0) 0 0 (.slice none 0 0) from rfl)
     refine t_q (q_fieldAddr 6 Try.runUnderlying114 rfl Try.sizeOf43 (by decide) rfl rfl) ?_
     refine t_store (v := (.int _ _)) Try.sizeOf43 hS (by repeat constructor) rfl rfl rfl rfl rfl rfl (fun w hS => ?_)
     replace hS := hS.recast (show blkA g7 114 _ = ceA g7 114 s0 ((m5 s0).1 : Int) ((m6 s0).1 : Int) ((m7 s0).1 : Int) (decide ((m4 s0).1 = 1)) (.slice none 0 0) (.slice none 0 0) 0 0 (.slice none 0 0) from rfl)
     refine t_nil (c_seq (c_seq (c_region ?_)))
     refine t_q (q_mv (.func _ _ _) rfl) ?_
     refine t_callv Try.call117 rfl (rn8 (s := s0) (((hS.pick (A := blkA g8 3 [.int .i64 (mv s0)]) (by repeat constructor)).pick (A := blkA g6 150 [.pointer (some ⟨g19, 0, none⟩)]) (by repeat constructor)).pick (A := rdrA w1 197 g19 _) (by repeat constructor))) rfl ?_
     rintro e w ⟨rfl, hS⟩
     refine ⟨_, rfl, ?_⟩
     refine t_q (q_move) ?_
     refine t_nil (c_block ?_)
     refine c_loop [51, 52, 53, 54, 55, 56, 57, 58, 59, 60, 61, 62, 63, 64, 65, 66] (fun k σ w => ∃ (j : Nat) (es : Sl EntV), σ 51 = .int .u64 (j : Int) ∧ es.l.map EntV.vw = (enk (m8 s0).2 j).1 ∧ (∀ e ∈ es.l, e.body.l.length ≤ e.body.c) ∧ es.l.length = j ∧ j ≤ (m8 s0).1 ∧ (m8 s0).1 - j ≤ k ∧ St w1 w [rdrA w1 197 g19 (enk (m8 s0).2 j).2, blkA g6 150 [.pointer (some ⟨g19, 0, none⟩)], blkA g8 3 [.int .i64 (mv s0)], ceA g7 114 s0 ((m5 s0).1 : Int) ((m6 s0).1 : Int) ((m7 s0).1 : Int) (decide ((m4 s0).1 = 1)) (.slice es.A es.l.length es.c) (.slice none 0 0) 0 0 (.slice none 0 0), rowA 169 3 es.A es.l.length es.c (es.l.flatMap EntV.cells), rdsA (es.l.map EntV.rp)]) ((m8 s0).1) rfl (⟨0, sl0, rfl, rfl, (fun e he => by cases he), rfl, by omega, by omega, (((((((hS.rds0.nilrow 169 3).pick (A := rdsA []) (by repeat constructor)).pick (A := rowA 169 3 none 0 0 []) (by repeat constructor)).pick (A := blkA g7 114 _) (by repeat constructor)).pick (A := blkA g8 3 [.int .i64 (mv s0)]) (by repeat constructor)).pick (A := blkA g6 150 [.pointer (some ⟨g19, 0, none⟩)]) (by repeat constructor)).pick (A := rdrA w1 197 g19 _) (by repeat constructor))⟩) ?_
     skip
     rintro k σ w ⟨j, es, h51, hes, hec, hel, hj8, hk, hS⟩
     refine c_know 51 h51 ?_
     clear h51
     refine c_seq (c_region ?_)
     refine t_q (q_lss rfl rfl) ?_
     refine t_nil (c_seq ?_)
     refine c_cond rfl ?_ ?_
     ·
      intro hc75
      have hc75d := of_decide_eq_true hc75
      refine c_skip (c_seq (c_block (c_draw ?_)))
      refine d_keep2 (blkA g6 150 [.pointer (some ⟨g19, 0, none⟩)]) (kA g7 s0 es) 14 [0, 1, 2, 3, 4, 5, 6, 7, 8, 9, 10, 11, 12, 13] [0, 1, 2, 3, 4, 5, 6, 7, 8, 9, 10, 11, 12, 13] hS rfl (by kernel_rfl) (by kernel_rfl) (by kernel_rfl) (by kernel_rfl) (fun hap hsel w hS => ?_)
      refine p_q hap hsel 0 rfl rfl ⟨_, ((hS.pick (A := kA g7 s0 es) (by repeat constructor)).pick (A := blkA g6 150 [.pointer (some ⟨g19, 0, none⟩)]) (by repeat constructor))⟩ (fun w hI => q_fieldAddr 8 Try.runUnderlying114 rfl Try.sizeOf111 (by decide) rfl rfl) ?_
      refine p_q hap hsel 1 rfl rfl ⟨_, ((hS.pick (A := kA g7 s0 es) (by repeat constructor)).pick (A := blkA g6 150 [.pointer (some ⟨g19, 0, none⟩)]) (by repeat constructor))⟩ (fun w hI => q_load1 Try.isAgg111 rfl (hI.choose_spec.cell (by repeat constructor) rfl)) ?_
      refine p_q hap hsel 2 rfl rfl ⟨_, ((hS.pick (A := kA g7 s0 es) (by repeat constructor)).pick (A := blkA g6 150 [.pointer (some ⟨g19, 0, none⟩)]) (by repeat constructor))⟩ (fun w hI => q_load1 Try.isAgg150 rfl (hI.choose_spec.cell (by repeat constructor) rfl)) ?_
      refine p_q hap hsel 4 rfl rfl ⟨_, ((hS.pick (A := kA g7 s0 es) (by repeat constructor)).pick (A := blkA g6 150 [.pointer (some ⟨g19, 0, none⟩)]) (by repeat constructor))⟩ (fun w hI => q_load1 Try.isAgg150 rfl (hI.choose_spec.cell (by repeat constructor) rfl)) ?_
      refine p_q hap hsel 6 rfl rfl ⟨_, ((hS.pick (A := kA g7 s0 es) (by repeat constructor)).pick (A := blkA g6 150 [.pointer (some ⟨g19, 0, none⟩)]) (by repeat constructor))⟩ (fun w hI => q_load1 Try.isAgg150 rfl (hI.choose_spec.cell (by repeat constructor) rfl)) ?_
      refine p_one 3 rfl (by kernel_rfl) ?_
      refine t_call Try.call82 (ren1 (s := (enk (m8 s0).2 j).2) hS (by repeat constructor)) rfl ?_
      rintro e w ⟨rfl, hS⟩
      refine ⟨_, rfl, ?_⟩
      refine t_nil ?_
      refine ⟨.inr ⟨_, ((hS.pick (A := kA g7 s0 es) (by repeat constructor)).pick (A := blkA g6 150 [.pointer (some ⟨g19, 0, none⟩)]) (by repeat constructor))⟩, ?_⟩
      refine p_one 5 rfl (by kernel_rfl) ?_
      refine t_call Try.call82 (ren2 (s := (enk (m8 s0).2 j).2) hS (by repeat constructor)) rfl ?_
      rintro e w ⟨rfl, hS⟩
      refine ⟨_, rfl, ?_⟩
      refine t_nil ?_
      refine ⟨.inr ⟨_, ((hS.pick (A := kA g7 s0 es) (by repeat constructor)).pick (A := blkA g6 150 [.pointer (some ⟨g19, 0, none⟩)]) (by repeat constructor))⟩, ?_⟩
      refine p_one 7 rfl (by kernel_rfl) ?_
      refine t_call Try.call118 (ren3 (s := (enk (m8 s0).2 j).2) hS (by repeat constructor)) rfl ?_
      rintro e w ⟨rfl, hS⟩
      refine ⟨_, rfl, ?_⟩
      refine t_nil ?_
      refine ⟨.inr ⟨_, ((hS.pick (A := kA g7 s0 es) (by repeat constructor)).pick (A := blkA g6 150 [.pointer (some ⟨g19, 0, none⟩)]) (by repeat constructor))⟩, ?_⟩
      refine p_one 8 rfl (by kernel_rfl) ?_
      refine t_bytes Try.underlying9 Try.underlying25 Try.underlying5 hS rfl (fun g61 k61 m61 w hS => ?_)
      replace hS := hS.recast (show blkA g61 5 _ (m61, m61 + 1) = blkA g61 5 ((en3 (enk (m8 s0).2 j).2).1.map bv ++ List.replicate k61 (.int .u8 0)) (m61, m61 + 1) from by simp)
      refine t_nil ?_
      refine ⟨.inr ⟨_, ((hS.pick (A := kA g7 s0 es) (by repeat constructor)).pick (A := blkA g6 150 [.pointer (some ⟨g19, 0, none⟩)]) (by repeat constructor))⟩, ?_⟩
      refine p_q hap hsel 9 rfl rfl ⟨_, ((hS.pick (A := kA g7 s0 es) (by repeat constructor)).pick (A := blkA g6 150 [.pointer (some ⟨g19, 0, none⟩)]) (by repeat constructor))⟩ (fun w hI => q_build (qs := [(0, 1), (1, 1), (2, 1)]) [(.int _ _), (.int _ _), (.slice _ _ _)] Try.zeroValue169 Try.runUnderlying169 ⟨rfl, Try.sizeOf43, rfl, Try.sizeOf43, rfl, Try.sizeOf25, trivial⟩ rfl rfl) ?_
      refine p_one 10 rfl (by kernel_rfl) ?_
      refine t_buildSlice Try.runUnderlying111 Try.sizeOf169 Try.zeroValue169 rfl rfl (by intro v hv; simp at hv; try (first | (subst hv; rfl) | (rcases hv with rfl | rfl <;> rfl))) (by decide) (by decide) hS (fun g63 w hS => ?_)
      refine t_nil ?_
      refine ⟨.inr ⟨_, ((hS.pick (A := kA g7 s0 es) (by repeat constructor)).pick (A := blkA g6 150 [.pointer (some ⟨g19, 0, none⟩)]) (by repeat constructor))⟩, ?_⟩
      refine p_one 11 rfl (by kernel_rfl) ?_
      refine t_append_own (size := 3) (bytes := 40) Try.underlying111 (info_of Try.type169) rfl rfl rfl rfl (by decide) hS (by repeat constructor) (by repeat constructor) rfl rfl (by first | exact allOne_bv _ | exact allOne_ints _ _ | rfl) (by unfold maxLen; omega) (by omega) (fun A64 c64 w hS => ?_)
      refine t_nil ?_
      refine ⟨.inr ⟨_, ((hS.pick (A := kA g7 s0 es) (by repeat constructor)).pick (A := blkA g6 150 [.pointer (some ⟨g19, 0, none⟩)]) (by repeat constructor))⟩, ?_⟩
      refine p_q hap hsel 12 rfl rfl ⟨_, ((hS.pick (A := kA g7 s0 es) (by repeat constructor)).pick (A := blkA g6 150 [.pointer (some ⟨g19, 0, none⟩)]) (by repeat constructor))⟩ (fun w hI => q_fieldAddr 8 Try.runUnderlying114 rfl Try.sizeOf111 (by decide) rfl rfl) ?_
      refine p_one 13 rfl (by kernel_rfl) ?_
      refine t_store (v := (.slice _ _ _)) Try.sizeOf111 hS (by repeat constructor) rfl rfl rfl rfl rfl rfl (fun w hS => ?_)
      replace hS := hS.recast (show blkA g7 114 _ = ceA g7 114 s0 ((m5 s0).1 : Int) ((m6 s0).1 : Int) ((m7 s0).1 : Int) (decide ((m4 s0).1 = 1)) (.slice A64 (es.l.length + 1) c64) (.slice none 0 0) 0 0 (.slice none 0 0) from rfl)
      refine t_nil ?_
      refine ⟨.inl (by kernel_rfl), ?_⟩
      refine p_end (by kernel_rfl) ?_
      refine c_region ?_
      refine t_q (q_add_u64 rfl rfl (by omega)) ?_
      refine t_q (q_mv (.int _ _) rfl) ?_
      refine t_nil ?_
      obtain ⟨es', h1, h2, h3, h4⟩ := rd_round (es := es) (k61 := k61) hes hec hel (((((((hS.pick (A := rdsA (es.l.map EntV.rp)) (by repeat constructor)).pick (A := blkA g61 5 _ (m61, m61 + 1)) (by repeat constructor)).pick (A := rowA 169 3 A64 _ c64 _) (by repeat constructor)).pick (A := blkA g7 114 _) (by repeat constructor)).pick (A := blkA g8 3 [.int .i64 (mv s0)]) (by repeat constructor)).pick (A := blkA g6 150 [.pointer (some ⟨g19, 0, none⟩)]) (by repeat constructor)).pick (A := rdrA w1 197 g19 _) (by repeat constructor))
      exact ⟨k - 1, by omega, j + 1, es', rfl, h1, h2, h3, by omega, by omega, h4⟩
     ·
      intro hc75
      have hc75d := of_decide_eq_false hc75
      obtain rfl : j = (m8 s0).1 := by omega
      refine c_exit ?_
      refine ite_t rfl ?_
      refine c_cut [67, 68, 69, 70, 71, 72, 73] (fun σ w => ∃ bd : Sl UInt8, bd.l = (m10 s0).1 ∧ bd.l.length ≤ bd.c ∧ St w1 w [rdrA w1 197 g19 (m10 s0).2, blkA g6 150 [.pointer (some ⟨g19, 0, none⟩)], blkA g8 3 [.int .i64 (mv s0)], ceA g7 114 s0 ((m5 s0).1 : Int) ((m6 s0).1 : Int) ((m7 s0).1 : Int) (decide ((m4 s0).1 = 1)) (.slice es.A es.l.length es.c) (.slice bd.A bd.l.length bd.c) 0 0 (.slice none 0 0), rowA 169 3 es.A es.l.length es.c (es.l.flatMap EntV.cells), rdsA (brp bd :: es.l.map EntV.rp)]) rfl ?_ ?_
      ·
       refine c_seq (c_region ?_)
       refine t_q (q_load1 Try.isAgg3 rfl (hS.cell (by repeat constructor) rfl)) ?_
       refine t_q (q_and rfl rfl) ?_
       refine t_q (q_cast (v' := .bool (hasF (mv s0) 32)) (q_neq rfl rfl) (congrArg Value.bool (and_ne (and_fl_32 _)))) ?_
       refine t_nil ?_
       refine c_cond rfl ?_ ?_
       ·
        intro hc80
        have hc80d := of_decide_eq_true hc80
        have hb32 : hasF (mv s0) 32 = true := hc80
        refine c_region ?_
        refine t_q (q_load1 Try.isAgg150 rfl (hS.cell (by repeat constructor) rfl)) ?_
        refine t_call Try.call118 (rm10 (s := s0) hb32 hS (by repeat constructor)) rfl ?_
        rintro e w ⟨rfl, hS⟩
        refine ⟨_, rfl, ?_⟩
        refine t_bytes Try.underlying9 Try.underlying25 Try.underlying5 hS rfl (fun g72 k72 m72 w hS => ?_)
        replace hS := hS.recast (show blkA g72 5 _ (m72, m72 + 1) = blkA g72 5 ((m10 s0).1.map bv ++ List.replicate k72 (.int .u8 0)) (m72, m72 + 1) from by simp)
        refine t_q (q_fieldAddr 9 Try.runUnderlying114 rfl Try.sizeOf25 (by decide) rfl rfl) ?_
        refine t_store (v := (.slice _ _ _)) Try.sizeOf25 hS (by repeat constructor) rfl rfl rfl rfl rfl rfl (fun w hS => ?_)
        replace hS := hS.recast (show blkA g7 114 _ = ceA g7 114 s0 ((m5 s0).1 : Int) ((m6 s0).1 : Int) ((m7 s0).1 : Int) (decide ((m4 s0).1 = 1)) (.slice es.A es.l.length es.c) (.slice (⟨some ⟨g72, 0, none⟩, (m10 s0).1.length + k72, (m10 s0).1⟩ : Sl UInt8).A (⟨some ⟨g72, 0, none⟩, (m10 s0).1.length + k72, (m10 s0).1⟩ : Sl UInt8).l.length (⟨some ⟨g72, 0, none⟩, (m10 s0).1.length + k72, (m10 s0).1⟩ : Sl UInt8).c) 0 0 (.slice none 0 0) from rfl)
        refine t_nil ?_
        first
          | exact ⟨⟨some ⟨g72, 0, none⟩, (m10 s0).1.length + k72, (m10 s0).1⟩, rfl, Nat.le_add_right _ _, (((((((((hS.pick (A := rdsA (es.l.map EntV.rp)) (by repeat constructor)).pick (A := blkA g72 5 _ (m72, m72 + 1)) (by repeat constructor)).frz_add).pick (A := rdsA _) (by repeat constructor)).pick (A := rowA 169 3 es.A es.l.length es.c (es.l.flatMap EntV.cells)) (by repeat constructor)).pick (A := blkA g7 114 _) (by repeat constructor)).pick (A := blkA g8 3 [.int .i64 (mv s0)]) (by repeat constructor)).pick (A := blkA g6 150 [.pointer (some ⟨g19, 0, none⟩)]) (by repeat constructor)).pick (A := rdrA w1 197 g19 _) (by repeat constructor))⟩
          | (have e10 : m10 s0 = ([], (m9 s0).2) := by unfold m10 oqT; rw [hb32]; rfl
             rw [e10]
             exact ⟨sl0, rfl, Nat.le_refl _, (((((((((((hS.nilrow 5 1).pick (A := rdsA (es.l.map EntV.rp)) (by repeat constructor)).pick (A := rowA 5 1 none 0 0 []) (by repeat constructor))).rds_add (f := bsf []) (Rd.none_ _ _ _ _)).pick (A := rdsA _) (by repeat constructor)).pick (A := rowA 169 3 es.A es.l.length es.c (es.l.flatMap EntV.cells)) (by repeat constructor)).pick (A := blkA g7 114 _) (by repeat constructor)).pick (A := blkA g8 3 [.int .i64 (mv s0)]) (by repeat constructor)).pick (A := blkA g6 150 [.pointer (some ⟨g19, 0, none⟩)]) (by repeat constructor)).pick (A := rdrA w1 197 g19 _) (by repeat constructor))⟩)
       ·
        intro hc80
        have hc80d := of_decide_eq_false hc80
        have hb32 : hasF (mv s0) 32 = false := hc80
        refine c_skip ?_
        first
          | exact ⟨⟨some ⟨g72, 0, none⟩, (m10 s0).1.length + k72, (m10 s0).1⟩, rfl, Nat.le_add_right _ _, (((((((((hS.pick (A := rdsA (es.l.map EntV.rp)) (by repeat constructor)).pick (A := blkA g72 5 _ (m72, m72 + 1)) (by repeat constructor)).frz_add).pick (A := rdsA _) (by repeat constructor)).pick (A := rowA 169 3 es.A es.l.length es.c (es.l.flatMap EntV.cells)) (by repeat constructor)).pick (A := blkA g7 114 _) (by repeat constructor)).pick (A := blkA g8 3 [.int .i64 (mv s0)]) (by repeat constructor)).pick (A := blkA g6 150 [.pointer (some ⟨g19, 0, none⟩)]) (by repeat constructor)).pick (A := rdrA w1 197 g19 _) (by repeat constructor))⟩
          | (have e10 : m10 s0 = ([], (m9 s0).2) := by unfold m10 oqT; rw [hb32]; rfl
             rw [e10]
             exact ⟨sl0, rfl, Nat.le_refl _, (((((((((((hS.nilrow 5 1).pick (A := rdsA (es.l.map EntV.rp)) (by repeat constructor)).pick (A := rowA 5 1 none 0 0 []) (by repeat constructor))).rds_add (f := bsf []) (Rd.none_ _ _ _ _)).pick (A := rdsA _) (by repeat constructor)).pick (A := rowA 169 3 es.A es.l.length es.c (es.l.flatMap EntV.cells)) (by repeat constructor)).pick (A := blkA g7 114 _) (by repeat constructor)).pick (A := blkA g8 3 [.int .i64 (mv s0)]) (by repeat constructor)).pick (A := blkA g6 150 [.pointer (some ⟨g19, 0, none⟩)]) (by repeat constructor)).pick (A := rdrA w1 197 g19 _) (by repeat constructor))⟩)
      ·
       rintro σ w ⟨bd, hbd, hbc, hS⟩
       refine c_seq (c_region ?_)
       refine t_q (q_mv (.func _ _ _) rfl) ?_
       refine t_callv Try.call117 rfl (rn11 (s := s0) (((hS.pick (A := blkA g8 3 [.int .i64 (mv s0)]) (by repeat constructor)).pick (A := blkA g6 150 [.pointer (some ⟨g19, 0, none⟩)]) (by repeat constructor)).pick (A := rdrA w1 197 g19 _) (by repeat constructor))) rfl ?_
       rintro e w ⟨rfl, hS⟩
       refine ⟨_, rfl, ?_⟩
       refine t_q (q_mv (.func _ _ _) rfl) ?_
       refine t_callv Try.call117 rfl (rn12 (s := s0) (((hS.pick (A := blkA g8 3 [.int .i64 (mv s0)]) (by repeat constructor)).pick (A := blkA g6 150 [.pointer (some ⟨g19, 0, none⟩)]) (by repeat constructor)).pick (A := rdrA w1 197 g19 _) (by repeat constructor))) rfl ?_
       rintro e w ⟨rfl, hS⟩
       refine ⟨_, rfl, ?_⟩
       refine t_q (q_fieldAddr 10 Try.runUnderlying114 rfl Try.sizeOf43 (by decide) rfl rfl) ?_
       refine t_store (v := (.int _ _)) Try.sizeOf43 hS (by repeat constructor) rfl rfl rfl rfl rfl rfl (fun w hS => ?_)
       replace hS := hS.recast (show blkA g7 114 _ = ceA g7 114 s0 ((m5 s0).1 : Int) ((m6 s0).1 : Int) ((m7 s0).1 : Int) (decide ((m4 s0).1 = 1)) (.slice es.A es.l.length es.c) (.slice bd.A bd.l.length bd.c) ((m11 s0).1 : Int) 0 (.slice none 0 0) from rfl)
       refine t_q (q_fieldAddr 11 Try.runUnderlying114 rfl Try.sizeOf43 (by decide) rfl rfl) ?_
       refine t_store (v := (.int _ _)) Try.sizeOf43 hS (by repeat constructor) rfl rfl rfl rfl rfl rfl (fun w hS => ?_)
       replace hS := hS.recast (show blkA g7 114 _ = ceA g7 114 s0 ((m5 s0).1 : Int) ((m6 s0).1 : Int) ((m7 s0).1 : Int) (decide ((m4 s0).1 = 1)) (.slice es.A es.l.length es.c) (.slice bd.A bd.l.length bd.c) ((m11 s0).1 : Int) ((m12 s0).1 : Int) (.slice none 0 0) from rfl)
       refine t_nil ?_
       refine c_cut [80, 81, 82, 83, 84, 85, 86, 87, 88] (fun σ w => ∃ ev : Sl Ev, ev.l = (m13 s0).1 ∧ St w1 w [rdrA w1 197 g19 (m13 s0).2, blkA g6 150 [.pointer (some ⟨g19, 0, none⟩)], blkA g8 3 [.int .i64 (mv s0)], ceA g7 114 s0 ((m5 s0).1 : Int) ((m6 s0).1 : Int) ((m7 s0).1 : Int) (decide ((m4 s0).1 = 1)) (.slice es.A es.l.length es.c) (.slice bd.A bd.l.length bd.c) ((m11 s0).1 : Int) ((m12 s0).1 : Int) (.slice ev.A ev.l.length ev.c), rowA 169 3 es.A es.l.length es.c (es.l.flatMap EntV.cells), rdsA (erp ev :: brp bd :: es.l.map EntV.rp)]) rfl ?_ ?_
       ·
        refine c_seq (c_region ?_)
        refine t_q (q_load1 Try.isAgg3 rfl (hS.cell (by repeat constructor) rfl)) ?_
        refine t_q (q_and rfl rfl) ?_
        refine t_q (q_cast (v' := .bool (hasF (mv s0) 64)) (q_neq rfl rfl) (congrArg Value.bool (and_ne (and_fl_64 _)))) ?_
        refine t_nil ?_
        refine c_cond rfl ?_ ?_
        ·
         intro hc85
         have hc85d := of_decide_eq_true hc85
         have hb64 : hasF (mv s0) 64 = true := hc85
         refine c_region ?_
         refine t_q (q_load1 Try.isAgg150 rfl (hS.cell (by repeat constructor) rfl)) ?_
         refine t_call Try.call119 (eread_calls (s := (m12 s0).2) hS (by repeat constructor) (m12_wf (by rw [hs0]; intro h; cases h))) rfl ?_
         rintro e w ⟨A85, n85, c85, rfl, hn85, hS⟩
         refine ⟨_, rfl, ?_⟩
         subst hn85
         refine t_q (q_mv (.tuple _) rfl) ?_
         refine t_q (q_extract rfl rfl) ?_
         refine t_q (q_extract rfl rfl) ?_
         refine t_q (q_fieldAddr 12 Try.runUnderlying114 rfl Try.sizeOf112 (by decide) rfl rfl) ?_
         refine t_store (v := (.slice _ _ _)) Try.sizeOf112 hS (by repeat constructor) rfl rfl rfl rfl rfl rfl (fun w hS => ?_)
         replace hS := hS.recast (show blkA g7 114 _ = ceA g7 114 s0 ((m5 s0).1 : Int) ((m6 s0).1 : Int) ((m7 s0).1 : Int) (decide ((m4 s0).1 = 1)) (.slice es.A es.l.length es.c) (.slice bd.A bd.l.length bd.c) ((m11 s0).1 : Int) ((m12 s0).1 : Int) (.slice (⟨A85, c85, evL (m12 s0).2⟩ : Sl Ev).A (⟨A85, c85, evL (m12 s0).2⟩ : Sl Ev).l.length (⟨A85, c85, evL (m12 s0).2⟩ : Sl Ev).c) from rfl)
         refine t_nil ?_
         first
           | (have e13 : m13 s0 = (evL (m12 s0).2, evS (m12 s0).2) := by unfold m13 oqE; rw [hb64]; rfl
              rw [e13]
              exact ⟨⟨A85, c85, evL (m12 s0).2⟩, rfl, ((((((((((hS.pick (A := rdsA (brp bd :: es.l.map EntV.rp)) (by repeat constructor)).pick (A := rowA 206 12 A85 _ c85 _) (by repeat constructor))).rds_add (f := evf (evL (m12 s0).2)) (rowRdE hS (by repeat constructor) rfl)).pick (A := rdsA _) (by repeat constructor)).pick (A := rowA 169 3 es.A es.l.length es.c (es.l.flatMap EntV.cells)) (by repeat constructor)).pick (A := blkA g7 114 _) (by repeat constructor)).pick (A := blkA g8 3 [.int .i64 (mv s0)]) (by repeat constructor)).pick (A := blkA g6 150 [.pointer (some ⟨g19, 0, none⟩)]) (by repeat constructor)).pick (A := rdrA w1 197 g19 _) (by repeat constructor))⟩)
           | (have e13 : m13 s0 = ([], (m12 s0).2) := by unfold m13 oqE; rw [hb64]; rfl
              rw [e13]
              exact ⟨sl0, rfl, (((((((((((hS.nilrow 206 12).pick (A := rdsA (brp bd :: es.l.map EntV.rp)) (by repeat constructor)).pick (A := rowA 206 12 none 0 0 []) (by repeat constructor))).rds_add (f := evf []) (Rd.none_ _ _ _ _)).pick (A := rdsA _) (by repeat constructor)).pick (A := rowA 169 3 es.A es.l.length es.c (es.l.flatMap EntV.cells)) (by repeat constructor)).pick (A := blkA g7 114 _) (by repeat constructor)).pick (A := blkA g8 3 [.int .i64 (mv s0)]) (by repeat constructor)).pick (A := blkA g6 150 [.pointer (some ⟨g19, 0, none⟩)]) (by repeat constructor)).pick (A := rdrA w1 197 g19 _) (by repeat constructor))⟩)
        ·
         intro hc85
         have hc85d := of_decide_eq_false hc85
         have hb64 : hasF (mv s0) 64 = false := hc85
         refine c_skip ?_
         first
           | (have e13 : m13 s0 = (evL (m12 s0).2, evS (m12 s0).2) := by unfold m13 oqE; rw [hb64]; rfl
              rw [e13]
              exact ⟨⟨A85, c85, evL (m12 s0).2⟩, rfl, ((((((((((hS.pick (A := rdsA (brp bd :: es.l.map EntV.rp)) (by repeat constructor)).pick (A := rowA 206 12 A85 _ c85 _) (by repeat constructor))).rds_add (f := evf (evL (m12 s0).2)) (rowRdE hS (by repeat constructor) rfl)).pick (A := rdsA _) (by repeat constructor)).pick (A := rowA 169 3 es.A es.l.length es.c (es.l.flatMap EntV.cells)) (by repeat constructor)).pick (A := blkA g7 114 _) (by repeat constructor)).pick (A := blkA g8 3 [.int .i64 (mv s0)]) (by repeat constructor)).pick (A := blkA g6 150 [.pointer (some ⟨g19, 0, none⟩)]) (by repeat constructor)).pick (A := rdrA w1 197 g19 _) (by repeat constructor))⟩)
           | (have e13 : m13 s0 = ([], (m12 s0).2) := by unfold m13 oqE; rw [hb64]; rfl
              rw [e13]
              exact ⟨sl0, rfl, (((((((((((hS.nilrow 206 12).pick (A := rdsA (brp bd :: es.l.map EntV.rp)) (by repeat constructor)).pick (A := rowA 206 12 none 0 0 []) (by repeat constructor))).rds_add (f := evf []) (Rd.none_ _ _ _ _)).pick (A := rdsA _) (by repeat constructor)).pick (A := rowA 169 3 es.A es.l.length es.c (es.l.flatMap EntV.cells)) (by repeat constructor)).pick (A := blkA g7 114 _) (by repeat constructor)).pick (A := blkA g8 3 [.int .i64 (mv s0)]) (by repeat constructor)).pick (A := blkA g6 150 [.pointer (some ⟨g19, 0, none⟩)]) (by repeat constructor)).pick (A := rdrA w1 197 g19 _) (by repeat constructor))⟩)
       ·
        rintro σ w ⟨ev, hev, hS⟩
        have hok : PtOk s0 es bd ev := ⟨hes, hec, hbd, hbc, hev⟩
        refine c_seq (c_seq (c_region ?_))
        refine t_q (q_load1 Try.isAgg150 rfl (hS.cell (by repeat constructor) rfl)) ?_
        refine t_call Try.call83 (rEnd hS (by repeat constructor)) rfl ?_
        rintro e w ⟨rfl, hS⟩
        refine ⟨_, rfl, ?_⟩
        have hS : St W w (_ :: _) := hS0.lift hS
        refine t_q (q_neq rfl rfl) ?_
        refine t_q (q_mv (.bool _) rfl) ?_
        refine t_case 92 rfl ?_ ?_
        ·
         intro hg91
         have hg91d := of_decide_eq_true hg91
         refine t_no rfl rfl (by rw [hg91]; decide) ?_
         refine t_no rfl rfl (by rw [hg91]; decide) ?_
         refine t_no rfl rfl (by rw [hg91]; decide) ?_
         refine t_q (q_pick_t rfl hg91) ?_
         refine t_nil ?_
         refine c_cond_t rfl rfl ?_
         have hno : RdOut bs zV 20 := by
           refine .inr ⟨rfl, rfl, fun Z' hj' he y hy => ?_⟩
           obtain rfl : Z = Z' := by rw [hj] at hj'; injection hj'
           rw [← hs0] at he hy
           first
             | (exfalso; omega)
             | (rw [soundB_vw (hy.trans (mkX_vw hok).symm)]; exact bnt (by assumption))
         refine c_seq (c_region ?_)
         refine t_q (q_build (qs := [(0, 1), (1, 1), (2, 1), (3, 1), (4, 1), (5, 1), (6, 1), (7, 1), (8, 1), (9, 1), (10, 1), (11, 1), (12, 1)]) [(.int _ _), (.int _ _), (.int _ _), (.int _ _), (.int _ _), (.int _ _), (.int _ _), (.bool _), (.slice _ _ _), (.slice _ _ _), (.int _ _), (.int _ _), (.slice _ _ _)] Try.zeroValue114 Try.runUnderlying114 ⟨rfl, Try.sizeOf3, rfl, Try.sizeOf3, rfl, Try.sizeOf3, rfl, Try.sizeOf43, rfl, Try.sizeOf43, rfl, Try.sizeOf43, rfl, Try.sizeOf43, rfl, Try.sizeOf4, rfl, Try.sizeOf111, rfl, Try.sizeOf25, rfl, Try.sizeOf43, rfl, Try.sizeOf43, rfl, Try.sizeOf112, trivial⟩ rfl rfl) ?_
         refine t_store (v := (.agg _)) Try.sizeOf114 hS (by repeat constructor) rfl rfl rfl rfl rfl rfl (fun w hS => ?_)
         refine t_q (q_assign) ?_
         refine t_nil (c_ret ?_)
         refine r_two rfl (res1_cellN Try.isAgg114 Try.sizeOf114 rfl (hS.blk (by repeat constructor)) rfl) rfl ?_
         first
           | exact ⟨zV, 20, rfl, zV_by, hno, zV_rds hS⟩
           | exact ⟨mkX s0 es bd ev, 0, rfl, mkX_by hok, hyes, mkX_rds hS (by repeat constructor) (by repeat constructor)⟩
        ·
         intro hg91
         have hg91d := of_decide_eq_false hg91
         refine t_yes rfl rfl hg91 ?_
         refine t_q (q_cast (v' := .agg (mkX s0 es bd ev).cells.toArray) (q_load_blk Try.isAgg114 Try.sizeOf114 rfl (hS.blk (by repeat constructor)) rfl) (by rfl)) ?_
         refine t_yes rfl rfl hg91 ?_
         have hXg : (mkX s0 es bd ev).Gd w := mkX_gd hok hS (by repeat constructor) (by repeat constructor)
         refine t_call Try.call59 (wsound_calls (x := mkX s0 es bd ev) hXg) rfl ?_
         rintro e w ⟨rfl, hT⟩
         refine ⟨_, rfl, ?_⟩
         replace hS := hS.after hT
         refine t_yes rfl rfl hg91 ?_
         refine t_q (q_not rfl) ?_
         refine t_q (q_pick_f rfl hg91) ?_
         refine t_nil ?_
         refine c_cond rfl ?_ ?_
         ·
          intro hc93
          have hno : RdOut bs zV 20 := by
            refine .inr ⟨rfl, rfl, fun Z' hj' he y hy => ?_⟩
            obtain rfl : Z = Z' := by rw [hj] at hj'; injection hj'
            rw [← hs0] at he hy
            first
              | (exfalso; omega)
              | (rw [soundB_vw (hy.trans (mkX_vw hok).symm)]; exact bnt (by assumption))
          refine c_seq (c_region ?_)
          refine t_q (q_build (qs := [(0, 1), (1, 1), (2, 1), (3, 1), (4, 1), (5, 1), (6, 1), (7, 1), (8, 1), (9, 1), (10, 1), (11, 1), (12, 1)]) [(.int _ _), (.int _ _), (.int _ _), (.int _ _), (.int _ _), (.int _ _), (.int _ _), (.bool _), (.slice _ _ _), (.slice _ _ _), (.int _ _), (.int _ _), (.slice _ _ _)] Try.zeroValue114 Try.runUnderlying114 ⟨rfl, Try.sizeOf3, rfl, Try.sizeOf3, rfl, Try.sizeOf3, rfl, Try.sizeOf43, rfl, Try.sizeOf43, rfl, Try.sizeOf43, rfl, Try.sizeOf43, rfl, Try.sizeOf4, rfl, Try.sizeOf111, rfl, Try.sizeOf25, rfl, Try.sizeOf43, rfl, Try.sizeOf43, rfl, Try.sizeOf112, trivial⟩ rfl rfl) ?_
          refine t_store (v := (.agg _)) Try.sizeOf114 hS (by repeat constructor) rfl rfl rfl rfl rfl rfl (fun w hS => ?_)
          refine t_q (q_assign) ?_
          refine t_nil (c_ret ?_)
          refine r_two rfl (res1_cellN Try.isAgg114 Try.sizeOf114 rfl (hS.blk (by repeat constructor)) rfl) rfl ?_
          first
            | exact ⟨zV, 20, rfl, zV_by, hno, zV_rds hS⟩
            | exact ⟨mkX s0 es bd ev, 0, rfl, mkX_by hok, hyes, mkX_rds hS (by repeat constructor) (by repeat constructor)⟩
         ·
          intro hc93
          have hyes : RdOut bs (mkX s0 es bd ev) 0 := .inl ⟨rfl, Z, hj, by rw [← hs0]; exact mkX_vw hok, by rw [← hs0]; omega, bnf (by assumption)⟩
          refine c_skip (c_seq (c_region ?_))
          refine t_q (q_cast (v' := .agg (mkX s0 es bd ev).cells.toArray) (q_load_blk Try.isAgg114 Try.sizeOf114 rfl (hS.blk (by repeat constructor)) rfl) (by rfl)) ?_
          refine t_store (v := (.agg _)) Try.sizeOf114 hS (by repeat constructor) rfl rfl rfl rfl rfl rfl (fun w hS => ?_)
          refine t_q (q_assign) ?_
          refine t_nil (c_ret ?_)
          refine r_two rfl (res1_cellN Try.isAgg114 Try.sizeOf114 rfl (hS.blk (by repeat constructor)) rfl) rfl ?_
          first
            | exact ⟨zV, 20, rfl, zV_by, hno, zV_rds hS⟩
            | exact ⟨mkX s0 es bd ev, 0, rfl, mkX_by hok, hyes, mkX_rds hS (by repeat constructor) (by repeat constructor)⟩
   ·
    refine t_alloc Try.zeroValue114 rfl hS (fun g7 w hS => ?_)
    refine t_nil ?_
    refine ⟨.inr ⟨_, hS.pick (by repeat constructor)⟩, ?_⟩
    refine p_one 4 rfl (by kernel_rfl) ?_
    refine t_call Try.call82 (rm1 (s := s0) hS (by repeat constructor)) rfl ?_
    rintro e w ⟨rfl, hS⟩
    refine ⟨_, rfl, ?_⟩
    refine t_nil ?_
    refine ⟨.inr ⟨_, hS.pick (by repeat constructor)⟩, ?_⟩
    refine p_q hap hsel 5 rfl rfl ⟨_, hS.pick (by repeat constructor)⟩ (fun w hI => q_conv_i64 Try.runUnderlying43 Try.runUnderlying3 rfl (by omega)) ?_
    refine p_one 7 rfl (by kernel_rfl) ?_
    refine t_call Try.call82 (rm2 (s := s0) hS (by repeat constructor)) rfl ?_
    rintro e w ⟨rfl, hS⟩
    refine ⟨_, rfl, ?_⟩
    refine t_nil ?_
    refine ⟨.inr ⟨_, hS.pick (by repeat constructor)⟩, ?_⟩
    refine p_q hap hsel 8 rfl rfl ⟨_, hS.pick (by repeat constructor)⟩ (fun w hI => q_conv_i64 Try.runUnderlying43 Try.runUnderlying3 rfl (by omega)) ?_
    refine p_one 10 rfl (by kernel_rfl) ?_
    refine t_call Try.call82 (rm3 (s := s0) hS (by repeat constructor)) rfl ?_
    rintro e w ⟨rfl, hS⟩
    refine ⟨_, rfl, ?_⟩
    refine t_nil ?_
    refine ⟨.inr ⟨_, hS.pick (by repeat constructor)⟩, ?_⟩
    refine p_q hap hsel 11 rfl rfl ⟨_, hS.pick (by repeat constructor)⟩ (fun w hI => q_build (qs := [(0, 1), (1, 1), (2, 1), (3, 1), (4, 1), (5, 1), (6, 1), (7, 1), (8, 1), (9, 1), (10, 1), (11, 1), (12, 1)]) [(.int _ _), (.int _ _), (.int _ _), (.int _ _), (.int _ _), (.int _ _), (.int _ _), (.bool _), (.slice _ _ _), (.slice _ _ _), (.int _ _), (.int _ _), (.slice _ _ _)] Try.zeroValue114 Try.runUnderlying114 ⟨rfl, Try.sizeOf3, rfl, Try.sizeOf3, rfl, Try.sizeOf3, rfl, Try.sizeOf43, rfl, Try.sizeOf43, rfl, Try.sizeOf43, rfl, Try.sizeOf43, rfl, Try.sizeOf4, rfl, Try.sizeOf111, rfl, Try.sizeOf25, rfl, Try.sizeOf43, rfl, Try.sizeOf43, rfl, Try.sizeOf112, trivial⟩ rfl rfl) ?_
    refine p_one 13 rfl (by kernel_rfl) ?_
    refine t_store (v := (.agg _)) Try.sizeOf114 hS (by repeat constructor) rfl rfl rfl rfl rfl rfl (fun w hS => ?_)
    replace hS := hS.recast (show blkA g7 114 _ = ceA g7 114 s0 0 0 0 (false) (.slice none 0 0) (.slice none 0 0) 0 0 (.slice none 0 0) from rfl)
    refine t_nil ?_
    refine ⟨.inl (by kernel_rfl), ?_⟩
    refine p_end (by kernel_rfl) ?_
    refine c_seq (c_region ?_)
    refine t_q (q_fieldAddr 0 Try.runUnderlying114 rfl Try.sizeOf3 (by decide) rfl rfl) ?_
    refine t_q (q_load1 Try.isAgg3 rfl (hS.cell (by repeat constructor) rfl)) ?_
    refine t_call Try.call102 (fields_calls (n := ((m0 s0).1 : Int))) rfl ?_
    rintro e w ⟨rfl, hT⟩
    refine ⟨_, rfl, ?_⟩
    replace hS := hS.after hT
    refine t_alloc Try.zeroValue3 rfl hS (fun g8 w hS => ?_)
    refine t_store (v := (.int _ _)) Try.sizeOf3 hS (by repeat constructor) rfl rfl rfl rfl rfl rfl (fun w hS => ?_)
    replace hS := hS.recast (show blkA g8 3 _ = blkA g8 3 [.int .i64 (mv s0)] from rfl)
    refine t_nil (c_seq (c_region ?_))
    refine t_q (q_makeFunc rfl) ?_
    refine t_q (q_as (.func _ _ _) rfl) ?_
    refine t_nil (c_seq (c_region ?_))
    refine t_q (q_mv (.func _ _ _) rfl) ?_
    refine t_callv Try.call117 rfl (rn4 (s := s0) (((hS.pick (A := blkA g8 3 [.int .i64 (mv s0)]) (by repeat constructor)).pick (A := blkA g6 150 [.pointer (some ⟨g19, 0, none⟩)]) (by repeat constructor)).pick (A := rdrA w1 197 g19 _) (by repeat constructor))) rfl ?_
    rintro e w ⟨rfl, hS⟩
    refine ⟨_, rfl, ?_⟩
    refine t_q (q_cast (v' := .bool (decide ((m4 s0).1 = 1))) (q_eql rfl rfl) (congrArg Value.bool (decide_eq_decide.2 (by omega)))) ?_
    refine t_q (q_fieldAddr 7 Try.runUnderlying114 rfl Try.sizeOf4 (by decide) rfl rfl) ?_
    refine t_store (v := (.bool _)) Try.sizeOf4 hS (by repeat constructor) rfl rfl rfl rfl rfl rfl (fun w hS => ?_)
    replace hS := hS.recast (show blkA g7 114 _ = ceA g7 114 s0 0 0 0 (decide ((m4 s0).1 = 1)) (.slice none 0 0) (.slice none 0 0) 0 0 (.slice none 0 0) from rfl)
    refine t_nil (c_seq (c_region ?_))
    refine t_q (q_mv (.func _ _ _) rfl) ?_
    refine t_callv Try.call117 rfl (rn5 (s := s0) (((hS.pick (A := blkA g8 3 [.int .i64 (mv s0)]) (by repeat constructor)).pick (A := blkA g6 150 [.pointer (some ⟨g19, 0, none⟩)]) (by repeat constructor)).pick (A := rdrA w1 197 g19 _) (by repeat constructor))) rfl ?_
    rintro e w ⟨rfl, hS⟩
    refine ⟨_, rfl, ?_⟩
    refine t_q (q_mv (.func _ _ _) rfl) ?_
    refine t_callv Try.call117 rfl (rn6 (s := s0) (((hS.pick (A := blkA g8 3 [.int .i64 (mv s0)]) (by repeat constructor)).pick (A := blkA g6 150 [.pointer (some ⟨g19, 0, none⟩)]) (by repeat constructor)).pick (A := rdrA w1 197 g19 _) (by repeat constructor))) rfl ?_
    rintro e w ⟨rfl, hS⟩
    refine ⟨_, rfl, ?_⟩
    refine t_q (q_mv (.func _ _ _) rfl) ?_
    refine t_callv Try.call117 rfl (rn7 (s := s0) (((hS.pick (A := blkA g8 3 [.int .i64 (mv s0)]) (by repeat constructor)).pick (A := blkA g6 150 [.pointer (some ⟨g19, 0, none⟩)]) (by repeat constructor)).pick (A := rdrA w1 197 g19 _) (by repeat constructor))) rfl ?_
    rintro e w ⟨rfl, hS⟩
    refine ⟨_, rfl, ?_⟩
    refine t_q (q_fieldAddr 4 Try.runUnderlying114 rfl Try.sizeOf43 (by decide) rfl rfl) ?_
    refine t_store (v := (.int _ _)) Try.sizeOf43 hS (by repeat constructor) rfl rfl rfl rfl rfl rfl (fun w hS => ?_)
    replace hS := hS.recast (show blkA g7 114 _ = ceA g7 114 s0 ((m5 s0).1 : Int) 0 0 (decide ((m4 s0).1 = 1)) (.slice none 0 0) (.slice none 0 0) 0 0 (.slice none 0 0) from rfl)
    refine t_q (q_fieldAddr 5 Try.runUnderlying114 rfl Try.sizeOf43 (by decide) rfl rfl) ?_
    refine t_store (v := (.int _ _)) Try.sizeOf43 hS (by repeat constructor) rfl rfl rfl rfl rfl rfl (fun w hS => ?_)
    replace hS := hS.recast (show blkA g7 114 _ = ceA g7 114 s0 ((m5 s0).1 : Int) ((m6 s0).1 : Int) 0 (decide ((m4 s0).1 = 1)) (.slice none 0 0) (.slice none 0 0) 0 0 (.slice none 0 0) from rfl)
    refine t_q (q_fieldAddr 6 Try.runUnderlying114 rfl Try.sizeOf43 (by decide) rfl rfl) ?_
    refine t_store (v := (.int _ _)) Try.sizeOf43 hS (by repeat constructor) rfl rfl rfl rfl rfl rfl (fun w hS => ?_)
    replace hS := hS.recast (show blkA g7 114 _ = ceA g7 114 s0 ((m5 s0).1 : Int) ((m6 s0).1 : Int) ((m7 s0).1 : Int) (decide ((m4 s0).1 = 1)) (.slice none 0 0) (.slice none 0 0) 0 0 (.slice none 0 0) from rfl)
    refine t_nil (c_seq (c_seq (c_region ?_)))
    refine t_q (q_mv (.func _ _ _) rfl) ?_
    refine t_callv Try.call117 rfl (rn8 (s := s0) (((hS.pick (A := blkA g8 3 [.int .i64 (mv s0)]) (by repeat constructor)).pick (A := blkA g6 150 [.pointer (some ⟨g19, 0, none⟩)]) (by repeat constructor)).pick (A := rdrA w1 197 g19 _) (by repeat constructor))) rfl ?_
    rintro e w ⟨rfl, hS⟩
    refine ⟨_, rfl, ?_⟩
    refine t_q (q_move) ?_
    refine t_nil (c_block ?_)
    refine c_loop [51, 52, 53, 54, 55, 56, 57, 58, 59, 60, 61, 62, 63, 64, 65, 66] (fun k σ w => ∃ (j : Nat) (es : Sl EntV), σ 51 = .int .u64 (j : Int) ∧ es.l.map EntV.vw = (enk (m8 s0).2 j).1 ∧ (∀ e ∈ es.l, e.body.l.length ≤ e.body.c) ∧ es.l.length = j ∧ j ≤ (m8 s0).1 ∧ (m8 s0).1 - j ≤ k ∧ St w1 w [rdrA w1 197 g19 (enk (m8 s0).2 j).2, blkA g6 150 [.pointer (some ⟨g19, 0, none⟩)], blkA g8 3 [.int .i64 (mv s0)], ceA g7 114 s0 ((m5 s0).1 : Int) ((m6 s0).1 : Int) ((m7 s0).1 : Int) (decide ((m4 s0).1 = 1)) (.slice es.A es.l.length es.c) (.slice none 0 0) 0 0 (.slice none 0 0), rowA 169 3 es.A es.l.length es.c (es.l.flatMap EntV.cells), rdsA (es.l.map EntV.rp)]) ((m8 s0).1) rfl (⟨0, sl0, rfl, rfl, (fun e he => by cases he), rfl, by omega, by omega, (((((((hS.rds0.nilrow 169 3).pick (A := rdsA []) (by repeat constructor)).pick (A := rowA 169 3 none 0 0 []) (by repeat constructor)).pick (A := blkA g7 114 _) (by repeat constructor)).pick (A := blkA g8 3 [.int .i64 (mv s0)]) (by repeat constructor)).pick (A := blkA g6 150 [.pointer (some ⟨g19, 0, none⟩)]) (by repeat constructor)).pick (A := rdrA w1 197 g19 _) (by repeat constructor))⟩) ?_
    skip
    rintro k σ w ⟨j, es, h51, hes, hec, hel, hj8, hk, hS⟩
    refine c_know 51 h51 ?_
    clear h51
    refine c_seq (c_region ?_)
    refine t_q (q_lss rfl rfl) ?_
    refine t_nil (c_seq ?_)
    refine c_cond rfl ?_ ?_
    ·
     intro hc105
     have hc105d := of_decide_eq_true hc105
     refine c_skip (c_seq (c_block (c_draw ?_)))
     refine d_keep2 (blkA g6 150 [.pointer (some ⟨g19, 0, none⟩)]) (kA g7 s0 es) 14 [0, 1, 2, 3, 4, 5, 6, 7, 8, 9, 10, 11, 12, 13] [0, 1, 2, 3, 4, 5, 6, 7, 8, 9, 10, 11, 12, 13] hS rfl (by kernel_rfl) (by kernel_rfl) (by kernel_rfl) (by kernel_rfl) (fun hap hsel w hS => ?_)
     refine p_q hap hsel 0 rfl rfl ⟨_, ((hS.pick (A := kA g7 s0 es) (by repeat constructor)).pick (A := blkA g6 150 [.pointer (some ⟨g19, 0, none⟩)]) (by repeat constructor))⟩ (fun w hI => q_fieldAddr 8 Try.runUnderlying114 rfl Try.sizeOf111 (by decide) rfl rfl) ?_
     refine p_q hap hsel 1 rfl rfl ⟨_, ((hS.pick (A := kA g7 s0 es) (by repeat constructor)).pick (A := blkA g6 150 [.pointer (some ⟨g19, 0, none⟩)]) (by repeat constructor))⟩ (fun w hI => q_load1 Try.isAgg111 rfl (hI.choose_spec.cell (by repeat constructor) rfl)) ?_
     refine p_q hap hsel 2 rfl rfl ⟨_, ((hS.pick (A := kA g7 s0 es) (by repeat constructor)).pick (A := blkA g6 150 [.pointer (some ⟨g19, 0, none⟩)]) (by repeat constructor))⟩ (fun w hI => q_load1 Try.isAgg150 rfl (hI.choose_spec.cell (by repeat constructor) rfl)) ?_
     refine p_q hap hsel 4 rfl rfl ⟨_, ((hS.pick (A := kA g7 s0 es) (by repeat constructor)).pick (A := blkA g6 150 [.pointer (some ⟨g19, 0, none⟩)]) (by repeat constructor))⟩ (fun w hI => q_load1 Try.isAgg150 rfl (hI.choose_spec.cell (by repeat constructor) rfl)) ?_
     refine p_q hap hsel 6 rfl rfl ⟨_, ((hS.pick (A := kA g7 s0 es) (by repeat constructor)).pick (A := blkA g6 150 [.pointer (some ⟨g19, 0, none⟩)]) (by repeat constructor))⟩ (fun w hI => q_load1 Try.isAgg150 rfl (hI.choose_spec.cell (by repeat constructor) rfl)) ?_
     refine p_one 3 rfl (by kernel_rfl) ?_
     refine t_call Try.call82 (ren1 (s := (enk (m8 s0).2 j).2) hS (by repeat constructor)) rfl ?_
     rintro e w ⟨rfl, hS⟩
     refine ⟨_, rfl, ?_⟩
     refine t_nil ?_
     refine ⟨.inr ⟨_, ((hS.pick (A := kA g7 s0 es) (by repeat constructor)).pick (A := blkA g6 150 [.pointer (some ⟨g19, 0, none⟩)]) (by repeat constructor))⟩, ?_⟩
     refine p_one 5 rfl (by kernel_rfl) ?_
     refine t_call Try.call82 (ren2 (s := (enk (m8 s0).2 j).2) hS (by repeat constructor)) rfl ?_
     rintro e w ⟨rfl, hS⟩
     refine ⟨_, rfl, ?_⟩
     refine t_nil ?_
     refine ⟨.inr ⟨_, ((hS.pick (A := kA g7 s0 es) (by repeat constructor)).pick (A := blkA g6 150 [.pointer (some ⟨g19, 0, none⟩)]) (by repeat constructor))⟩, ?_⟩
     refine p_one 7 rfl (by kernel_rfl) ?_
     refine t_call Try.call118 (ren3 (s := (enk (m8 s0).2 j).2) hS (by repeat constructor)) rfl ?_
     rintro e w ⟨rfl, hS⟩
     refine ⟨_, rfl, ?_⟩
     refine t_nil ?_
     refine ⟨.inr ⟨_, ((hS.pick (A := kA g7 s0 es) (by repeat constructor)).pick (A := blkA g6 150 [.pointer (some ⟨g19, 0, none⟩)]) (by repeat constructor))⟩, ?_⟩
     refine p_one 8 rfl (by kernel_rfl) ?_
     refine t_bytes Try.underlying9 Try.underlying25 Try.underlying5 hS rfl (fun g61 k61 m61 w hS => ?_)
     replace hS := hS.recast (show blkA g61 5 _ (m61, m61 + 1) = blkA g61 5 ((en3 (enk (m8 s0).2 j).2).1.map bv ++ List.replicate k61 (.int .u8 0)) (m61, m61 + 1) from by simp)
     refine t_nil ?_
     refine ⟨.inr ⟨_, ((hS.pick (A := kA g7 s0 es) (by repeat constructor)).pick (A := blkA g6 150 [.pointer (some ⟨g19, 0, none⟩)]) (by repeat constructor))⟩, ?_⟩
     refine p_q hap hsel 9 rfl rfl ⟨_, ((hS.pick (A := kA g7 s0 es) (by repeat constructor)).pick (A := blkA g6 150 [.pointer (some ⟨g19, 0, none⟩)]) (by repeat constructor))⟩ (fun w hI => q_build (qs := [(0, 1), (1, 1), (2, 1)]) [(.int _ _), (.int _ _), (.slice _ _ _)] Try.zeroValue169 Try.runUnderlying169 ⟨rfl, Try.sizeOf43, rfl, Try.sizeOf43, rfl, Try.sizeOf25, trivial⟩ rfl rfl) ?_
     refine p_one 10 rfl (by kernel_rfl) ?_
     refine t_buildSlice Try.runUnderlying111 Try.sizeOf169 Try.zeroValue169 rfl rfl (by intro v hv; simp at hv; try (first | (subst hv; rfl) | (rcases hv with rfl | rfl <;> rfl))) (by decide) (by decide) hS (fun g63 w hS => ?_)
     refine t_nil ?_
     refine ⟨.inr ⟨_, ((hS.pick (A := kA g7 s0 es) (by repeat constructor)).pick (A := blkA g6 150 [.pointer (some ⟨g19, 0, none⟩)]) (by repeat constructor))⟩, ?_⟩
     refine p_one 11 rfl (by kernel_rfl) ?_
     refine t_append_own (size := 3) (bytes := 40) Try.underlying111 (info_of Try.type169) rfl rfl rfl rfl (by decide) hS (by repeat constructor) (by repeat constructor) rfl rfl (by first | exact allOne_bv _ | exact allOne_ints _ _ | rfl) (by unfold maxLen; omega) (by omega) (fun A64 c64 w hS => ?_)
     refine t_nil ?_
     refine ⟨.inr ⟨_, ((hS.pick (A := kA g7 s0 es) (by repeat constructor)).pick (A := blkA g6 150 [.pointer (some ⟨g19, 0, none⟩)]) (by repeat constructor))⟩, ?_⟩
     refine p_q hap hsel 12 rfl rfl ⟨_, ((hS.pick (A := kA g7 s0 es) (by repeat constructor)).pick (A := blkA g6 150 [.pointer (some ⟨g19, 0, none⟩)]) (by repeat constructor))⟩ (fun w hI => q_fieldAddr 8 Try.runUnderlying114 rfl Try.sizeOf111 (by decide) rfl rfl) ?_
     refine p_one 13 rfl (by kernel_rfl) ?_
     refine t_store (v := (.slice _ _ _)) Try.sizeOf111 hS (by repeat constructor) rfl rfl rfl rfl rfl rfl (fun w hS => ?_)
     replace hS := hS.recast (show blkA g7 114 _ = ceA g7 114 s0 ((m5 s0).1 : Int) ((m6 s0).1 : Int) ((m7 s0).1 : Int) (decide ((m4 s0).1 = 1)) (.slice A64 (es.l.length + 1) c64) (.slice none 0 0) 0 0 (.slice none 0 0) from rfl)
     refine t_nil ?_
     refine ⟨.inl (by kernel_rfl), ?_⟩
     refine p_end (by kernel_rfl) ?_
     refine c_region ?_
     refine t_q (q_add_u64 rfl rfl (by omega)) ?_
     refine t_q (q_mv (.int _ _) rfl) ?_
     refine t_nil ?_
     obtain ⟨es', h1, h2, h3, h4⟩ := rd_round (es := es) (k61 := k61) hes hec hel (((((((hS.pick (A := rdsA (es.l.map EntV.rp)) (by repeat constructor)).pick (A := blkA g61 5 _ (m61, m61 + 1)) (by repeat constructor)).pick (A := rowA 169 3 A64 _ c64 _) (by repeat constructor)).pick (A := blkA g7 114 _) (by repeat constructor)).pick (A := blkA g8 3 [.int .i64 (mv s0)]) (by repeat constructor)).pick (A := blkA g6 150 [.pointer (some ⟨g19, 0, none⟩)]) (by repeat constructor)).pick (A := rdrA w1 197 g19 _) (by repeat constructor))
     exact ⟨k - 1, by omega, j + 1, es', rfl, h1, h2, h3, by omega, by omega, h4⟩
    ·
     intro hc105
     have hc105d := of_decide_eq_false hc105
     obtain rfl : j = (m8 s0).1 := by omega
     refine c_exit ?_
     refine ite_t rfl ?_
     refine c_cut [67, 68, 69, 70, 71, 72, 73] (fun σ w => ∃ bd : Sl UInt8, bd.l = (m10 s0).1 ∧ bd.l.length ≤ bd.c ∧ St w1 w [rdrA w1 197 g19 (m10 s0).2, blkA g6 150 [.pointer (some ⟨g19, 0, none⟩)], blkA g8 3 [.int .i64 (mv s0)], ceA g7 114 s0 ((m5 s0).1 : Int) ((m6 s0).1 : Int) ((m7 s0).1 : Int) (decide ((m4 s0).1 = 1)) (.slice es.A es.l.length es.c) (.slice bd.A bd.l.length bd.c) 0 0 (.slice none 0 0), rowA 169 3 es.A es.l.length es.c (es.l.flatMap EntV.cells), rdsA (brp bd :: es.l.map EntV.rp)]) rfl ?_ ?_
     ·
      refine c_seq (c_region ?_)
      refine t_q (q_load1 Try.isAgg3 rfl (hS.cell (by repeat constructor) rfl)) ?_
      refine t_q (q_and rfl rfl) ?_
      refine t_q (q_cast (v' := .bool (hasF (mv s0) 32)) (q_neq rfl rfl) (congrArg Value.bool (and_ne (and_fl_32 _)))) ?_
      refine t_nil ?_
      refine c_cond rfl ?_ ?_
      ·
       intro hc110
       have hc110d := of_decide_eq_true hc110
       have hb32 : hasF (mv s0) 32 = true := hc110
       refine c_region ?_
       refine t_q (q_load1 Try.isAgg150 rfl (hS.cell (by repeat constructor) rfl)) ?_
       refine t_call Try.call118 (rm10 (s := s0) hb32 hS (by repeat constructor)) rfl ?_
       rintro e w ⟨rfl, hS⟩
       refine ⟨_, rfl, ?_⟩
       refine t_bytes Try.underlying9 Try.underlying25 Try.underlying5 hS rfl (fun g72 k72 m72 w hS => ?_)
       replace hS := hS.recast (show blkA g72 5 _ (m72, m72 + 1) = blkA g72 5 ((m10 s0).1.map bv ++ List.replicate k72 (.int .u8 0)) (m72, m72 + 1) from by simp)
       refine t_q (q_fieldAddr 9 Try.runUnderlying114 rfl Try.sizeOf25 (by decide) rfl rfl) ?_
       refine t_store (v := (.slice _ _ _)) Try.sizeOf25 hS (by repeat constructor) rfl rfl rfl rfl rfl rfl (fun w hS => ?_)
       replace hS := hS.recast (show blkA g7 114 _ = ceA g7 114 s0 ((m5 s0).1 : Int) ((m6 s0).1 : Int) ((m7 s0).1 : Int) (decide ((m4 s0).1 = 1)) (.slice es.A es.l.length es.c) (.slice (⟨some ⟨g72, 0, none⟩, (m10 s0).1.length + k72, (m10 s0).1⟩ : Sl UInt8).A (⟨some ⟨g72, 0, none⟩, (m10 s0).1.length + k72, (m10 s0).1⟩ : Sl UInt8).l.length (⟨some ⟨g72, 0, none⟩, (m10 s0).1.length + k72, (m10 s0).1⟩ : Sl UInt8).c) 0 0 (.slice none 0 0) from rfl)
       refine t_nil ?_
       first
         | exact ⟨⟨some ⟨g72, 0, none⟩, (m10 s0).1.length + k72, (m10 s0).1⟩, rfl, Nat.le_add_right _ _, (((((((((hS.pick (A := rdsA (es.l.map EntV.rp)) (by repeat constructor)).pick (A := blkA g72 5 _ (m72, m72 + 1)) (by repeat constructor)).frz_add).pick (A := rdsA _) (by repeat constructor)).pick (A := rowA 169 3 es.A es.l.length es.c (es.l.flatMap EntV.cells)) (by repeat constructor)).pick (A := blkA g7 114 _) (by repeat constructor)).pick (A := blkA g8 3 [.int .i64 (mv s0)]) (by repeat constructor)).pick (A := blkA g6 150 [.pointer (some ⟨g19, 0, none⟩)]) (by repeat constructor)).pick (A := rdrA w1 197 g19 _) (by repeat constructor))⟩
         | (have e10 : m10 s0 = ([], (m9 s0).2) := by unfold m10 oqT; rw [hb32]; rfl
            rw [e10]
            exact ⟨sl0, rfl, Nat.le_refl _, (((((((((((hS.nilrow 5 1).pick (A := rdsA (es.l.map EntV.rp)) (by repeat constructor)).pick (A := rowA 5 1 none 0 0 []) (by repeat constructor))).rds_add (f := bsf []) (Rd.none_ _ _ _ _)).pick (A := rdsA _) (by repeat constructor)).pick (A := rowA 169 3 es.A es.l.length es.c (es.l.flatMap EntV.cells)) (by repeat constructor)).pick (A := blkA g7 114 _) (by repeat constructor)).pick (A := blkA g8 3 [.int .i64 (mv s0)]) (by repeat constructor)).pick (A := blkA g6 150 [.pointer (some ⟨g19, 0, none⟩)]) (by repeat constructor)).pick (A := rdrA w1 197 g19 _) (by repeat constructor))⟩)
      ·
       intro hc110
       have hc110d := of_decide_eq_false hc110
       have hb32 : hasF (mv s0) 32 = false := hc110
       refine c_skip ?_
       first
         | exact ⟨⟨some ⟨g72, 0, none⟩, (m10 s0).1.length + k72, (m10 s0).1⟩, rfl, Nat.le_add_right _ _, (((((((((hS.pick (A := rdsA (es.l.map EntV.rp)) (by repeat constructor)).pick (A := blkA g72 5 _ (m72, m72 + 1)) (by repeat constructor)).frz_add).pick (A := rdsA _) (by repeat constructor)).pick (A := rowA 169 3 es.A es.l.length es.c (es.l.flatMap EntV.cells)) (by repeat constructor)).pick (A := blkA g7 114 _) (by repeat constructor)).pick (A := blkA g8 3 [.int .i64 (mv s0)]) (by repeat constructor)).pick (A := blkA g6 150 [.pointer (some ⟨g19, 0, none⟩)]) (by repeat constructor)).pick (A := rdrA w1 197 g19 _) (by repeat constructor))⟩
         | (have e10 : m10 s0 = ([], (m9 s0).2) := by unfold m10 oqT; rw [hb32]; rfl
            rw [e10]
            exact ⟨sl0, rfl, Nat.le_refl _, (((((((((((hS.nilrow 5 1).pick (A := rdsA (es.l.map EntV.rp)) (by repeat constructor)).pick (A := rowA 5 1 none 0 0 []) (by repeat constructor))).rds_add (f := bsf []) (Rd.none_ _ _ _ _)).pick (A := rdsA _) (by repeat constructor)).pick (A := rowA 169 3 es.A es.l.length es.c (es.l.flatMap EntV.cells)) (by repeat constructor)).pick (A := blkA g7 114 _) (by repeat constructor)).pick (A := blkA g8 3 [.int .i64 (mv s0)]) (by repeat constructor)).pick (A := blkA g6 150 [.pointer (some ⟨g19, 0, none⟩)]) (by repeat constructor)).pick (A := rdrA w1 197 g19 _) (by repeat constructor))⟩)
     ·
      rintro σ w ⟨bd, hbd, hbc, hS⟩
      refine c_seq (c_region ?_)
      refine t_q (q_mv (.func _ _ _) rfl) ?_
      refine t_callv Try.call117 rfl (rn11 (s := s0) (((hS.pick (A := blkA g8 3 [.int .i64 (mv s0)]) (by repeat constructor)).pick (A := blkA g6 150 [.pointer (some ⟨g19, 0, none⟩)]) (by repeat constructor)).pick (A := rdrA w1 197 g19 _) (by repeat constructor))) rfl ?_
      rintro e w ⟨rfl, hS⟩
      refine ⟨_, rfl, ?_⟩
      refine t_q (q_mv (.func _ _ _) rfl) ?_
      refine t_callv Try.call117 rfl (rn12 (s := s0) (((hS.pick (A := blkA g8 3 [.int .i64 (mv s0)]) (by repeat constructor)).pick (A := blkA g6 150 [.pointer (some ⟨g19, 0, none⟩)]) (by repeat constructor)).pick (A := rdrA w1 197 g19 _) (by repeat constructor))) rfl ?_
      rintro e w ⟨rfl, hS⟩
      refine ⟨_, rfl, ?_⟩
      refine t_q (q_fieldAddr 10 Try.runUnderlying114 rfl Try.sizeOf43 (by decide) rfl rfl) ?_
      refine t_store (v := (.int _ _)) Try.sizeOf43 hS (by repeat constructor) rfl rfl rfl rfl rfl rfl (fun w hS => ?_)
      replace hS := hS.recast (show blkA g7 114 _ = ceA g7 114 s0 ((m5 s0).1 : Int) ((m6 s0).1 : Int) ((m7 s0).1 : Int) (decide ((m4 s0).1 = 1)) (.slice es.A es.l.length es.c) (.slice bd.A bd.l.length bd.c) ((m11 s0).1 : Int) 0 (.slice none 0 0) from rfl)
      refine t_q (q_fieldAddr 11 Try.runUnderlying114 rfl Try.sizeOf43 (by decide) rfl rfl) ?_
      refine t_store (v := (.int _ _)) Try.sizeOf43 hS (by repeat constructor) rfl rfl rfl rfl rfl rfl (fun w hS => ?_)
      replace hS := hS.recast (show blkA g7 114 _ = ceA g7 114 s0 ((m5 s0).1 : Int) ((m6 s0).1 : Int) ((m7 s0).1 : Int) (decide ((m4 s0).1 = 1)) (.slice es.A es.l.length es.c) (.slice bd.A bd.l.length bd.c) ((m11 s0).1 : Int) ((m12 s0).1 : Int) (.slice none 0 0) from rfl)
      refine t_nil ?_
      refine c_cut [80, 81, 82, 83, 84, 85, 86, 87, 88] (fun σ w => ∃ ev : Sl Ev, ev.l = (m13 s0).1 ∧ St w1 w [rdrA w1 197 g19 (m13 s0).2, blkA g6 150 [.pointer (some ⟨g19, 0, none⟩)], blkA g8 3 [.int .i64 (mv s0)], ceA g7 114 s0 ((m5 s0).1 : Int) ((m6 s0).1 : Int) ((m7 s0).1 : Int) (decide ((m4 s0).1 = 1)) (.slice es.A es.l.length es.c) (.slice bd.A bd.l.length bd.c) ((m11 s0).1 : Int) ((m12 s0).1 : Int) (.slice ev.A ev.l.length ev.c), rowA 169 3 es.A es.l.length es.c (es.l.flatMap EntV.cells), rdsA (erp ev :: brp bd :: es.l.map EntV.rp)]) rfl ?_ ?_
      ·
       refine c_seq (c_region ?_)
       refine t_q (q_load1 Try.isAgg3 rfl (hS.cell (by repeat constructor) rfl)) ?_
       refine t_q (q_and rfl rfl) ?_
       refine t_q (q_cast (v' := .bool (hasF (mv s0) 64)) (q_neq rfl rfl) (congrArg Value.bool (and_ne (and_fl_64 _)))) ?_
       refine t_nil ?_
       refine c_cond rfl ?_ ?_
       ·
        intro hc115
        have hc115d := of_decide_eq_true hc115
        have hb64 : hasF (mv s0) 64 = true := hc115
        refine c_region ?_
        refine t_q (q_load1 Try.isAgg150 rfl (hS.cell (by repeat constructor) rfl)) ?_
        refine t_call Try.call119 (eread_calls (s := (m12 s0).2) hS (by repeat constructor) (m12_wf (by rw [hs0]; intro h; cases h))) rfl ?_
        rintro e w ⟨A85, n85, c85, rfl, hn85, hS⟩
        refine ⟨_, rfl, ?_⟩
        subst hn85
        refine t_q (q_mv (.tuple _) rfl) ?_
        refine t_q (q_extract rfl rfl) ?_
        refine t_q (q_extract rfl rfl) ?_
        refine t_q (q_fieldAddr 12 Try.runUnderlying114 rfl Try.sizeOf112 (by decide) rfl rfl) ?_
        refine t_store (v := (.slice _ _ _)) Try.sizeOf112 hS (by repeat constructor) rfl rfl rfl rfl rfl rfl (fun w hS => ?_)
        replace hS := hS.recast (show blkA g7 114 _ = ceA g7 114 s0 ((m5 s0).1 : Int) ((m6 s0).1 : Int) ((m7 s0).1 : Int) (decide ((m4 s0).1 = 1)) (.slice es.A es.l.length es.c) (.slice bd.A bd.l.length bd.c) ((m11 s0).1 : Int) ((m12 s0).1 : Int) (.slice (⟨A85, c85, evL (m12 s0).2⟩ : Sl Ev).A (⟨A85, c85, evL (m12 s0).2⟩ : Sl Ev).l.length (⟨A85, c85, evL (m12 s0).2⟩ : Sl Ev).c) from rfl)
        refine t_nil ?_
        first
          | (have e13 : m13 s0 = (evL (m12 s0).2, evS (m12 s0).2) := by unfold m13 oqE; rw [hb64]; rfl
             rw [e13]
             exact ⟨⟨A85, c85, evL (m12 s0).2⟩, rfl, ((((((((((hS.pick (A := rdsA (brp bd :: es.l.map EntV.rp)) (by repeat constructor)).pick (A := rowA 206 12 A85 _ c85 _) (by repeat constructor))).rds_add (f := evf (evL (m12 s0).2)) (rowRdE hS (by repeat constructor) rfl)).pick (A := rdsA _) (by repeat constructor)).pick (A := rowA 169 3 es.A es.l.length es.c (es.l.flatMap EntV.cells)) (by repeat constructor)).pick (A := blkA g7 114 _) (by repeat constructor)).pick (A := blkA g8 3 [.int .i64 (mv s0)]) (by repeat constructor)).pick (A := blkA g6 150 [.pointer (some ⟨g19, 0, none⟩)]) (by repeat constructor)).pick (A := rdrA w1 197 g19 _) (by repeat constructor))⟩)
          | (have e13 : m13 s0 = ([], (m12 s0).2) := by unfold m13 oqE; rw [hb64]; rfl
             rw [e13]
             exact ⟨sl0, rfl, (((((((((((hS.nilrow 206 12).pick (A := rdsA (brp bd :: es.l.map EntV.rp)) (by repeat constructor)).pick (A := rowA 206 12 none 0 0 []) (by repeat constructor))).rds_add (f := evf []) (Rd.none_ _ _ _ _)).pick (A := rdsA _) (by repeat constructor)).pick (A := rowA 169 3 es.A es.l.length es.c (es.l.flatMap EntV.cells)) (by repeat constructor)).pick (A := blkA g7 114 _) (by repeat constructor)).pick (A := blkA g8 3 [.int .i64 (mv s0)]) (by repeat constructor)).pick (A := blkA g6 150 [.pointer (some ⟨g19, 0, none⟩)]) (by repeat constructor)).pick (A := rdrA w1 197 g19 _) (by repeat constructor))⟩)
       ·
        intro hc115
        have hc115d := of_decide_eq_false hc115
        have hb64 : hasF (mv s0) 64 = false := hc115
        refine c_skip ?_
        first
          | (have e13 : m13 s0 = (evL (m12 s0).2, evS (m12 s0).2) := by unfold m13 oqE; rw [hb64]; rfl
             rw [e13]
             exact ⟨⟨A85, c85, evL (m12 s0).2⟩, rfl, ((((((((((hS.pick (A := rdsA (brp bd :: es.l.map EntV.rp)) (by repeat constructor)).pick (A := rowA 206 12 A85 _ c85 _) (by repeat constructor))).rds_add (f := evf (evL (m12 s0).2)) (rowRdE hS (by repeat constructor) rfl)).pick (A := rdsA _) (by repeat constructor)).pick (A := rowA 169 3 es.A es.l.length es.c (es.l.flatMap EntV.cells)) (by repeat constructor)).pick (A := blkA g7 114 _) (by repeat constructor)).pick (A := blkA g8 3 [.int .i64 (mv s0)]) (by repeat constructor)).pick (A := blkA g6 150 [.pointer (some ⟨g19, 0, none⟩)]) (by repeat constructor)).pick (A := rdrA w1 197 g19 _) (by repeat constructor))⟩)
          | (have e13 : m13 s0 = ([], (m12 s0).2) := by unfold m13 oqE; rw [hb64]; rfl
             rw [e13]
             exact ⟨sl0, rfl, (((((((((((hS.nilrow 206 12).pick (A := rdsA (brp bd :: es.l.map EntV.rp)) (by repeat constructor)).pick (A := rowA 206 12 none 0 0 []) (by repeat constructor))).rds_add (f := evf []) (Rd.none_ _ _ _ _)).pick (A := rdsA _) (by repeat constructor)).pick (A := rowA 169 3 es.A es.l.length es.c (es.l.flatMap EntV.cells)) (by repeat constructor)).pick (A := blkA g7 114 _) (by repeat constructor)).pick (A := blkA g8 3 [.int .i64 (mv s0)]) (by repeat constructor)).pick (A := blkA g6 150 [.pointer (some ⟨g19, 0, none⟩)]) (by repeat constructor)).pick (A := rdrA w1 197 g19 _) (by repeat constructor))⟩)
      ·
       rintro σ w ⟨ev, hev, hS⟩
       have hok : PtOk s0 es bd ev := ⟨hes, hec, hbd, hbc, hev⟩
       refine c_seq (c_seq (c_region ?_))
       refine t_q (q_load1 Try.isAgg150 rfl (hS.cell (by repeat constructor) rfl)) ?_
       refine t_call Try.call83 (rEnd hS (by repeat constructor)) rfl ?_
       rintro e w ⟨rfl, hS⟩
       refine ⟨_, rfl, ?_⟩
       have hS : St W w (_ :: _) := hS0.lift hS
       refine t_q (q_neq rfl rfl) ?_
       refine t_q (q_mv (.bool _) rfl) ?_
       refine t_case 92 rfl ?_ ?_
       ·
        intro hg121
        have hg121d := of_decide_eq_true hg121
        refine t_no rfl rfl (by rw [hg121]; decide) ?_
        refine t_no rfl rfl (by rw [hg121]; decide) ?_
        refine t_no rfl rfl (by rw [hg121]; decide) ?_
        refine t_q (q_pick_t rfl hg121) ?_
        refine t_nil ?_
        refine c_cond_t rfl rfl ?_
        have hno : RdOut bs zV 20 := by
          refine .inr ⟨rfl, rfl, fun Z' hj' he y hy => ?_⟩
          obtain rfl : Z = Z' := by rw [hj] at hj'; injection hj'
          rw [← hs0] at he hy
          first
            | (exfalso; omega)
            | (rw [soundB_vw (hy.trans (mkX_vw hok).symm)]; exact bnt (by assumption))
        refine c_seq (c_region ?_)
        refine t_q (q_build (qs := [(0, 1), (1, 1), (2, 1), (3, 1), (4, 1), (5, 1), (6, 1), (7, 1), (8, 1), (9, 1), (10, 1), (11, 1), (12, 1)]) [(.int _ _), (.int _ _), (.int _ _), (.int _ _), (.int _ _), (.int _ _), (.int _ _), (.bool _), (.slice _ _ _), (.slice _ _ _), (.int _ _), (.int _ _), (.slice _ _ _)] Try.zeroValue114 Try.runUnderlying114 ⟨rfl, Try.sizeOf3, rfl, Try.sizeOf3, rfl, Try.sizeOf3, rfl, Try.sizeOf43, rfl, Try.sizeOf43, rfl, Try.sizeOf43, rfl, Try.sizeOf43, rfl, Try.sizeOf4, rfl, Try.sizeOf111, rfl, Try.sizeOf25, rfl, Try.sizeOf43, rfl, Try.sizeOf43, rfl, Try.sizeOf112, trivial⟩ rfl rfl) ?_
        refine t_store (v := (.agg _)) Try.sizeOf114 hS (by repeat constructor) rfl rfl rfl rfl rfl rfl (fun w hS => ?_)
        refine t_q (q_assign) ?_
        refine t_nil (c_ret ?_)
        refine r_two rfl (res1_cellN Try.isAgg114 Try.sizeOf114 rfl (hS.blk (by repeat constructor)) rfl) rfl ?_
        first
          | exact ⟨zV, 20, rfl, zV_by, hno, zV_rds hS⟩
          | exact ⟨mkX s0 es bd ev, 0, rfl, mkX_by hok, hyes, mkX_rds hS (by repeat constructor) (by repeat constructor)⟩
       ·
        intro hg121
        have hg121d := of_decide_eq_false hg121
        refine t_yes rfl rfl hg121 ?_
        refine t_q (q_cast (v' := .agg (mkX s0 es bd ev).cells.toArray) (q_load_blk Try.isAgg114 Try.sizeOf114 rfl (hS.blk (by repeat constructor)) rfl) (by rfl)) ?_
        refine t_yes rfl rfl hg121 ?_
        have hXg : (mkX s0 es bd ev).Gd w := mkX_gd hok hS (by repeat constructor) (by repeat constructor)
        refine t_call Try.call59 (wsound_calls (x := mkX s0 es bd ev) hXg) rfl ?_
        rintro e w ⟨rfl, hT⟩
        refine ⟨_, rfl, ?_⟩
        replace hS := hS.after hT
        refine t_yes rfl rfl hg121 ?_
        refine t_q (q_not rfl) ?_
        refine t_q (q_pick_f rfl hg121) ?_
        refine t_nil ?_
        refine c_cond rfl ?_ ?_
        ·
         intro hc123
         have hno : RdOut bs zV 20 := by
           refine .inr ⟨rfl, rfl, fun Z' hj' he y hy => ?_⟩
           obtain rfl : Z = Z' := by rw [hj] at hj'; injection hj'
           rw [← hs0] at he hy
           first
             | (exfalso; omega)
             | (rw [soundB_vw (hy.trans (mkX_vw hok).symm)]; exact bnt (by assumption))
         refine c_seq (c_region ?_)
         refine t_q (q_build (qs := [(0, 1), (1, 1), (2, 1), (3, 1), (4, 1), (5, 1), (6, 1), (7, 1), (8, 1), (9, 1), (10, 1), (11, 1), (12, 1)]) [(.int _ _), (.int _ _), (.int _ _), (.int _ _), (.int _ _), (.int _ _), (.int _ _), (.bool _), (.slice _ _ _), (.slice _ _ _), (.int _ _), (.int _ _), (.slice _ _ _)] Try.zeroValue114 Try.runUnderlying114 ⟨rfl, Try.sizeOf3, rfl, Try.sizeOf3, rfl, Try.sizeOf3, rfl, Try.sizeOf43, rfl, Try.sizeOf43, rfl, Try.sizeOf43, rfl, Try.sizeOf43, rfl, Try.sizeOf4, rfl, Try.sizeOf111, rfl, Try.sizeOf25, rfl, Try.sizeOf43, rfl, Try.sizeOf43, rfl, Try.sizeOf112, trivial⟩ rfl rfl) ?_
         refine t_store (v := (.agg _)) Try.sizeOf114 hS (by repeat constructor) rfl rfl rfl rfl rfl rfl (fun w hS => ?_)
         refine t_q (q_assign) ?_
         refine t_nil (c_ret ?_)
         refine r_two rfl (res1_cellN Try.isAgg114 Try.sizeOf114 rfl (hS.blk (by repeat constructor)) rfl) rfl ?_
         first
           | exact ⟨zV, 20, rfl, zV_by, hno, zV_rds hS⟩
           | exact ⟨mkX s0 es bd ev, 0, rfl, mkX_by hok, hyes, mkX_rds hS (by repeat constructor) (by repeat constructor)⟩
        ·
         intro hc123
         have hyes : RdOut bs (mkX s0 es bd ev) 0 := .inl ⟨rfl, Z, hj, by rw [← hs0]; exact mkX_vw hok, by rw [← hs0]; omega, bnf (by assumption)⟩
         refine c_skip (c_seq (c_region ?_))
         refine t_q (q_cast (v' := .agg (mkX s0 es bd ev).cells.toArray) (q_load_blk Try.isAgg114 Try.sizeOf114 rfl (hS.blk (by repeat constructor)) rfl) (by rfl)) ?_
         refine t_store (v := (.agg _)) Try.sizeOf114 hS (by repeat constructor) rfl rfl rfl rfl rfl rfl (fun w hS => ?_)
         refine t_q (q_assign) ?_
         refine t_nil (c_ret ?_)
         refine r_two rfl (res1_cellN Try.isAgg114 Try.sizeOf114 rfl (hS.blk (by repeat constructor)) rfl) rfl ?_
         first
           | exact ⟨zV, 20, rfl, zV_by, hno, zV_rds hS⟩
           | exact ⟨mkX s0 es bd ev, 0, rfl, mkX_by hok, hyes, mkX_rds hS (by repeat constructor) (by repeat constructor)⟩
  ·
   refine t_alloc Try.zeroValue114 rfl hS (fun g7 w hS => ?_)
   refine t_nil ?_
   refine ⟨.inr ⟨_, hS.pick (by repeat constructor)⟩, ?_⟩
   refine p_one 1 rfl (by kernel_rfl) ?_
   refine t_call Try.call82 (rm0 (s := s0) hS (by repeat constructor)) rfl ?_
   rintro e w ⟨rfl, hS⟩
   refine ⟨_, rfl, ?_⟩
   refine t_nil ?_
   refine ⟨.inr ⟨_, hS.pick (by repeat constructor)⟩, ?_⟩
   refine p_q hap hsel 2 rfl rfl ⟨_, hS.pick (by repeat constructor)⟩ (fun w hI => q_conv_i64 Try.runUnderlying43 Try.runUnderlying3 rfl (by omega)) ?_
   refine p_one 4 rfl (by kernel_rfl) ?_
   refine t_call Try.call82 (rm1 (s := s0) hS (by repeat constructor)) rfl ?_
   rintro e w ⟨rfl, hS⟩
   refine ⟨_, rfl, ?_⟩
   refine t_nil ?_
   refine ⟨.inr ⟨_, hS.pick (by repeat constructor)⟩, ?_⟩
   refine p_q hap hsel 5 rfl rfl ⟨_, hS.pick (by repeat constructor)⟩ (fun w hI => q_conv_i64 Try.runUnderlying43 Try.runUnderlying3 rfl (by omega)) ?_
   refine p_one 7 rfl (by kernel_rfl) ?_
   refine t_call Try.call82 (rm2 (s := s0) hS (by repeat constructor)) rfl ?_
   rintro e w ⟨rfl, hS⟩
   refine ⟨_, rfl, ?_⟩
   refine t_nil ?_
   refine ⟨.inr ⟨_, hS.pick (by repeat constructor)⟩, ?_⟩
   refine p_q hap hsel 8 rfl rfl ⟨_, hS.pick (by repeat constructor)⟩ (fun w hI => q_conv_i64 Try.runUnderlying43 Try.runUnderlying3 rfl (by omega)) ?_
   refine p_one 10 rfl (by kernel_rfl) ?_
   refine t_call Try.call82 (rm3 (s := s0) hS (by repeat constructor)) rfl ?_
   rintro e w ⟨rfl, hS⟩
   refine ⟨_, rfl, ?_⟩
   refine t_nil ?_
   refine ⟨.inr ⟨_, hS.pick (by repeat constructor)⟩, ?_⟩
   refine p_q hap hsel 11 rfl rfl ⟨_, hS.pick (by repeat constructor)⟩ (fun w hI => q_build (qs := [(0, 1), (1, 1), (2, 1), (3, 1), (4, 1), (5, 1), (6, 1), (7, 1), (8, 1), (9, 1), (10, 1), (11, 1), (12, 1)]) [(.int _ _), (.int _ _), (.int _ _), (.int _ _), (.int _ _), (.int _ _), (.int _ _), (.bool _), (.slice _ _ _), (.slice _ _ _), (.int _ _), (.int _ _), (.slice _ _ _)] Try.zeroValue114 Try.runUnderlying114 ⟨rfl, Try.sizeOf3, rfl, Try.sizeOf3, rfl, Try.sizeOf3, rfl, Try.sizeOf43, rfl, Try.sizeOf43, rfl, Try.sizeOf43, rfl, Try.sizeOf43, rfl, Try.sizeOf4, rfl, Try.sizeOf111, rfl, Try.sizeOf25, rfl, Try.sizeOf43, rfl, Try.sizeOf43, rfl, Try.sizeOf112, trivial⟩ rfl rfl) ?_
   refine p_one 13 rfl (by kernel_rfl) ?_
   refine t_store (v := (.agg _)) Try.sizeOf114 hS (by repeat constructor) rfl rfl rfl rfl rfl rfl (fun w hS => ?_)
   replace hS := hS.recast (show blkA g7 114 _ = ceA g7 114 s0 0 0 0 (false) (.slice none 0 0) (.slice none 0 0) 0 0 (.slice none 0 0) from rfl)
   refine t_nil ?_
   refine ⟨.inl (by kernel_rfl), ?_⟩
   refine p_end (by kernel_rfl) ?_
   refine c_seq (c_region ?_)
   refine t_q (q_fieldAddr 0 Try.runUnderlying114 rfl Try.sizeOf3 (by decide) rfl rfl) ?_
   refine t_q (q_load1 Try.isAgg3 rfl (hS.cell (by repeat constructor) rfl)) ?_
   refine t_call Try.call102 (fields_calls (n := ((m0 s0).1 : Int))) rfl ?_
   rintro e w ⟨rfl, hT⟩
   refine ⟨_, rfl, ?_⟩
   replace hS := hS.after hT
   refine t_alloc Try.zeroValue3 rfl hS (fun g8 w hS => ?_)
   refine t_store (v := (.int _ _)) Try.sizeOf3 hS (by repeat constructor) rfl rfl rfl rfl rfl rfl (fun w hS => ?_)
   replace hS := hS.recast (show blkA g8 3 _ = blkA g8 3 [.int .i64 (mv s0)] from rfl)
   refine t_nil (c_seq (c_region ?_))
   refine t_q (q_makeFunc rfl) ?_
   refine t_q (q_as (.func _ _ _) rfl) ?_
   refine t_nil (c_seq (c_region ?_))
   refine t_q (q_mv (.func _ _ _) rfl) ?_
   refine t_callv Try.call117 rfl (rn4 (s := s0) (((hS.pick (A := blkA g8 3 [.int .i64 (mv s0)]) (by repeat constructor)).pick (A := blkA g6 150 [.pointer (some ⟨g19, 0, none⟩)]) (by repeat constructor)).pick (A := rdrA w1 197 g19 _) (by repeat constructor))) rfl ?_
   rintro e w ⟨rfl, hS⟩
   refine ⟨_, rfl, ?_⟩
   refine t_q (q_cast (v' := .bool (decide ((m4 s0).1 = 1))) (q_eql rfl rfl) (congrArg Value.bool (decide_eq_decide.2 (by omega)))) ?_
   refine t_q (q_fieldAddr 7 Try.runUnderlying114 rfl Try.sizeOf4 (by decide) rfl rfl) ?_
   refine t_store (v := (.bool _)) Try.sizeOf4 hS (by repeat constructor) rfl rfl rfl rfl rfl rfl (fun w hS => ?_)
   replace hS := hS.recast (show blkA g7 114 _ = ceA g7 114 s0 0 0 0 (decide ((m4 s0).1 = 1)) (.slice none 0 0) (.slice none 0 0) 0 0 (.slice none 0 0) from rfl)
   refine t_nil (c_seq (c_region ?_))
   refine t_q (q_mv (.func _ _ _) rfl) ?_
   refine t_callv Try.call117 rfl (rn5 (s := s0) (((hS.pick (A := blkA g8 3 [.int .i64 (mv s0)]) (by repeat constructor)).pick (A := blkA g6 150 [.pointer (some ⟨g19, 0, none⟩)]) (by repeat constructor)).pick (A := rdrA w1 197 g19 _) (by repeat constructor))) rfl ?_
   rintro e w ⟨rfl, hS⟩
   refine ⟨_, rfl, ?_⟩
   refine t_q (q_mv (.func _ _ _) rfl) ?_
   refine t_callv Try.call117 rfl (rn6 (s := s0) (((hS.pick (A := blkA g8 3 [.int .i64 (mv s0)]) (by repeat constructor)).pick (A := blkA g6 150 [.pointer (some ⟨g19, 0, none⟩)]) (by repeat constructor)).pick (A := rdrA w1 197 g19 _) (by repeat constructor))) rfl ?_
   rintro e w ⟨rfl, hS⟩
   refine ⟨_, rfl, ?_⟩
   refine t_q (q_mv (.func _ _ _) rfl) ?_
   refine t_callv Try.call117 rfl (rn7 (s := s0) (((hS.pick (A := blkA g8 3 [.int .i64 (mv s0)]) (by repeat constructor)).pick (A := blkA g6 150 [.pointer (some ⟨g19, 0, none⟩)]) (by repeat constructor)).pick (A := rdrA w1 197 g19 _) (by repeat constructor))) rfl ?_
   rintro e w ⟨rfl, hS⟩
   refine ⟨_, rfl, ?_⟩
   refine t_q (q_fieldAddr 4 Try.runUnderlying114 rfl Try.sizeOf43 (by decide) rfl rfl) ?_
   refine t_store (v := (.int _ _)) Try.sizeOf43 hS (by repeat constructor) rfl rfl rfl rfl rfl rfl (fun w hS => ?_)
   replace hS := hS.recast (show blkA g7 114 _ = ceA g7 114 s0 ((m5 s0).1 : Int) 0 0 (decide ((m4 s0).1 = 1)) (.slice none 0 0) (.slice none 0 0) 0 0 (.slice none 0 0) from rfl)
   refine t_q (q_fieldAddr 5 Try.runUnderlying114 rfl Try.sizeOf43 (by decide) rfl rfl) ?_
   refine t_store (v := (.int _ _)) Try.sizeOf43 hS (by repeat constructor) rfl rfl rfl rfl rfl rfl (fun w hS => ?_)
   replace hS := hS.recast (show blkA g7 114 _ = ceA g7 114 s0 ((m5 s0).1 : Int) ((m6 s0).1 : Int) 0 (decide ((m4 s0).1 = 1)) (.slice none 0 0) (.slice none 0 0) 0 0 (.slice none 0 0) from rfl)
   refine t_q (q_fieldAddr 6 Try.runUnderlying114 rfl Try.sizeOf43 (by decide) rfl rfl) ?_
   refine t_store (v := (.int _ _)) Try.sizeOf43 hS (by repeat constructor) rfl rfl rfl rfl rfl rfl (fun w hS => ?_)
   replace hS := hS.recast (show blkA g7 114 _ = ceA g7 114 s0 ((m5 s0).1 : Int) ((m6 s0).1 : Int) ((m7 s0).1 : Int) (decide ((m4 s0).1 = 1)) (.slice none 0 0) (.slice none 0 0) 0 0 (.slice none 0 0) from rfl)
   refine t_nil (c_seq (c_seq (c_region ?_)))
   refine t_q (q_mv (.func _ _ _) rfl) ?_
   refine t_callv Try.call117 rfl (rn8 (s := s0) (((hS.pick (A := blkA g8 3 [.int .i64 (mv s0)]) (by repeat constructor)).pick (A := blkA g6 150 [.pointer (some ⟨g19, 0, none⟩)]) (by repeat constructor)).pick (A := rdrA w1 197 g19 _) (by repeat constructor))) rfl ?_
   rintro e w ⟨rfl, hS⟩
   refine ⟨_, rfl, ?_⟩
   refine t_q (q_move) ?_
   refine t_nil (c_block ?_)
   refine c_loop [51, 52, 53, 54, 55, 56, 57, 58, 59, 60, 61, 62, 63, 64, 65, 66] (fun k σ w => ∃ (j : Nat) (es : Sl EntV), σ 51 = .int .u64 (j : Int) ∧ es.l.map EntV.vw = (enk (m8 s0).2 j).1 ∧ (∀ e ∈ es.l, e.body.l.length ≤ e.body.c) ∧ es.l.length = j ∧ j ≤ (m8 s0).1 ∧ (m8 s0).1 - j ≤ k ∧ St w1 w [rdrA w1 197 g19 (enk (m8 s0).2 j).2, blkA g6 150 [.pointer (some ⟨g19, 0, none⟩)], blkA g8 3 [.int .i64 (mv s0)], ceA g7 114 s0 ((m5 s0).1 : Int) ((m6 s0).1 : Int) ((m7 s0).1 : Int) (decide ((m4 s0).1 = 1)) (.slice es.A es.l.length es.c) (.slice none 0 0) 0 0 (.slice none 0 0), rowA 169 3 es.A es.l.length es.c (es.l.flatMap EntV.cells), rdsA (es.l.map EntV.rp)]) ((m8 s0).1) rfl (⟨0, sl0, rfl, rfl, (fun e he => by cases he), rfl, by omega, by omega, (((((((hS.rds0.nilrow 169 3).pick (A := rdsA []) (by repeat constructor)).pick (A := rowA 169 3 none 0 0 []) (by repeat constructor)).pick (A := blkA g7 114 _) (by repeat constructor)).pick (A := blkA g8 3 [.int .i64 (mv s0)]) (by repeat constructor)).pick (A := blkA g6 150 [.pointer (some ⟨g19, 0, none⟩)]) (by repeat constructor)).pick (A := rdrA w1 197 g19 _) (by repeat constructor))⟩) ?_
   skip
   rintro k σ w ⟨j, es, h51, hes, hec, hel, hj8, hk, hS⟩
   refine c_know 51 h51 ?_
   clear h51
   refine c_seq (c_region ?_)
   refine t_q (q_lss rfl rfl) ?_
   refine t_nil (c_seq ?_)
   refine c_cond rfl ?_ ?_
   ·
    intro hc136
    have hc136d := of_decide_eq_true hc136
    refine c_skip (c_seq (c_block (c_draw ?_)))
    refine d_keep2 (blkA g6 150 [.pointer (some ⟨g19, 0, none⟩)]) (kA g7 s0 es) 14 [0, 1, 2, 3, 4, 5, 6, 7, 8, 9, 10, 11, 12, 13] [0, 1, 2, 3, 4, 5, 6, 7, 8, 9, 10, 11, 12, 13] hS rfl (by kernel_rfl) (by kernel_rfl) (by kernel_rfl) (by kernel_rfl) (fun hap hsel w hS => ?_)
    refine p_q hap hsel 0 rfl rfl ⟨_, ((hS.pick (A := kA g7 s0 es) (by repeat constructor)).pick (A := blkA g6 150 [.pointer (some ⟨g19, 0, none⟩)]) (by repeat constructor))⟩ (fun w hI => q_fieldAddr 8 Try.runUnderlying114 rfl Try.sizeOf111 (by decide) rfl rfl) ?_
    refine p_q hap hsel 1 rfl rfl ⟨_, ((hS.pick (A := kA g7 s0 es) (by repeat constructor)).pick (A := blkA g6 150 [.pointer (some ⟨g19, 0, none⟩)]) (by repeat constructor))⟩ (fun w hI => q_load1 Try.isAgg111 rfl (hI.choose_spec.cell (by repeat constructor) rfl)) ?_
    refine p_q hap hsel 2 rfl rfl ⟨_, ((hS.pick (A := kA g7 s0 es) (by repeat constructor)).pick (A := blkA g6 150 [.pointer (some ⟨g19, 0, none⟩)]) (by repeat constructor))⟩ (fun w hI => q_load1 Try.isAgg150 rfl (hI.choose_spec.cell (by repeat constructor) rfl)) ?_
    refine p_q hap hsel 4 rfl rfl ⟨_, ((hS.pick (A := kA g7 s0 es) (by repeat constructor)).pick (A := blkA g6 150 [.pointer (some ⟨g19, 0, none⟩)]) (by repeat constructor))⟩ (fun w hI => q_load1 Try.isAgg150 rfl (hI.choose_spec.cell (by repeat constructor) rfl)) ?_
    refine p_q hap hsel 6 rfl rfl ⟨_, ((hS.pick (A := kA g7 s0 es) (by repeat constructor)).pick (A := blkA g6 150 [.pointer (some ⟨g19, 0, none⟩)]) (by repeat constructor))⟩ (fun w hI => q_load1 Try.isAgg150 rfl (hI.choose_spec.cell (by repeat constructor) rfl)) ?_
    refine p_one 3 rfl (by kernel_rfl) ?_
    refine t_call Try.call82 (ren1 (s := (enk (m8 s0).2 j).2) hS (by repeat constructor)) rfl ?_
    rintro e w ⟨rfl, hS⟩
    refine ⟨_, rfl, ?_⟩
    refine t_nil ?_
    refine ⟨.inr ⟨_, ((hS.pick (A := kA g7 s0 es) (by repeat constructor)).pick (A := blkA g6 150 [.pointer (some ⟨g19, 0, none⟩)]) (by repeat constructor))⟩, ?_⟩
    refine p_one 5 rfl (by kernel_rfl) ?_
    refine t_call Try.call82 (ren2 (s := (enk (m8 s0).2 j).2) hS (by repeat constructor)) rfl ?_
    rintro e w ⟨rfl, hS⟩
    refine ⟨_, rfl, ?_⟩
    refine t_nil ?_
    refine ⟨.inr ⟨_, ((hS.pick (A := kA g7 s0 es) (by repeat constructor)).pick (A := blkA g6 150 [.pointer (some ⟨g19, 0, none⟩)]) (by repeat constructor))⟩, ?_⟩
    refine p_one 7 rfl (by kernel_rfl) ?_
    refine t_call Try.call118 (ren3 (s := (enk (m8 s0).2 j).2) hS (by repeat constructor)) rfl ?_
    rintro e w ⟨rfl, hS⟩
    refine ⟨_, rfl, ?_⟩
    refine t_nil ?_
    refine ⟨.inr ⟨_, ((hS.pick (A := kA g7 s0 es) (by repeat constructor)).pick (A := blkA g6 150 [.pointer (some ⟨g19, 0, none⟩)]) (by repeat constructor))⟩, ?_⟩
    refine p_one 8 rfl (by kernel_rfl) ?_
    refine t_bytes Try.underlying9 Try.underlying25 Try.underlying5 hS rfl (fun g61 k61 m61 w hS => ?_)
    replace hS := hS.recast (show blkA g61 5 _ (m61, m61 + 1) = blkA g61 5 ((en3 (enk (m8 s0).2 j).2).1.map bv ++ List.replicate k61 (.int .u8 0)) (m61, m61 + 1) from by simp)
    refine t_nil ?_
    refine ⟨.inr ⟨_, ((hS.pick (A := kA g7 s0 es) (by repeat constructor)).pick (A := blkA g6 150 [.pointer (some ⟨g19, 0, none⟩)]) (by repeat constructor))⟩, ?_⟩
    refine p_q hap hsel 9 rfl rfl ⟨_, ((hS.pick (A := kA g7 s0 es) (by repeat constructor)).pick (A := blkA g6 150 [.pointer (some ⟨g19, 0, none⟩)]) (by repeat constructor))⟩ (fun w hI => q_build (qs := [(0, 1), (1, 1), (2, 1)]) [(.int _ _), (.int _ _), (.slice _ _ _)] Try.zeroValue169 Try.runUnderlying169 ⟨rfl, Try.sizeOf43, rfl, Try.sizeOf43, rfl, Try.sizeOf25, trivial⟩ rfl rfl) ?_
    refine p_one 10 rfl (by kernel_rfl) ?_
    refine t_buildSlice Try.runUnderlying111 Try.sizeOf169 Try.zeroValue169 rfl rfl (by intro v hv; simp at hv; try (first | (subst hv; rfl) | (rcases hv with rfl | rfl <;> rfl))) (by decide) (by decide) hS (fun g63 w hS => ?_)
    refine t_nil ?_
    refine ⟨.inr ⟨_, ((hS.pick (A := kA g7 s0 es) (by repeat constructor)).pick (A := blkA g6 150 [.pointer (some ⟨g19, 0, none⟩)]) (by repeat constructor))⟩, ?_⟩
    refine p_one 11 rfl (by kernel_rfl) ?_
    refine t_append_own (size := 3) (bytes := 40) Try.underlying111 (info_of Try.type169) rfl rfl rfl rfl (by decide) hS (by repeat constructor) (by repeat constructor) rfl rfl (by first | exact allOne_bv _ | exact allOne_ints _ _ | rfl) (by unfold maxLen; omega) (by omega) (fun A64 c64 w hS => ?_)
    refine t_nil ?_
    refine ⟨.inr ⟨_, ((hS.pick (A := kA g7 s0 es) (by repeat constructor)).pick (A := blkA g6 150 [.pointer (some ⟨g19, 0, none⟩)]) (by repeat constructor))⟩, ?_⟩
    refine p_q hap hsel 12 rfl rfl ⟨_, ((hS.pick (A := kA g7 s0 es) (by repeat constructor)).pick (A := blkA g6 150 [.pointer (some ⟨g19, 0, none⟩)]) (by repeat constructor))⟩ (fun w hI => q_fieldAddr 8 Try.runUnderlying114 rfl Try.sizeOf111 (by decide) rfl rfl) ?_
    refine p_one 13 rfl (by kernel_rfl) ?_
    refine t_store (v := (.slice _ _ _)) Try.sizeOf111 hS (by repeat constructor) rfl rfl rfl rfl rfl rfl (fun w hS => ?_)
    replace hS := hS.recast (show blkA g7 114 _ = ceA g7 114 s0 ((m5 s0).1 : Int) ((m6 s0).1 : Int) ((m7 s0).1 : Int) (decide ((m4 s0).1 = 1)) (.slice A64 (es.l.length + 1) c64) (.slice none 0 0) 0 0 (.slice none 0 0) from rfl)
    refine t_nil ?_
    refine ⟨.inl (by kernel_rfl), ?_⟩
    refine p_end (by kernel_rfl) ?_
    refine c_region ?_
    refine t_q (q_add_u64 rfl rfl (by omega)) ?_
    refine t_q (q_mv (.int _ _) rfl) ?_
    refine t_nil ?_
    obtain ⟨es', h1, h2, h3, h4⟩ := rd_round (es := es) (k61 := k61) hes hec hel (((((((hS.pick (A := rdsA (es.l.map EntV.rp)) (by repeat constructor)).pick (A := blkA g61 5 _ (m61, m61 + 1)) (by repeat constructor)).pick (A := rowA 169 3 A64 _ c64 _) (by repeat constructor)).pick (A := blkA g7 114 _) (by repeat constructor)).pick (A := blkA g8 3 [.int .i64 (mv s0)]) (by repeat constructor)).pick (A := blkA g6 150 [.pointer (some ⟨g19, 0, none⟩)]) (by repeat constructor)).pick (A := rdrA w1 197 g19 _) (by repeat constructor))
    exact ⟨k - 1, by omega, j + 1, es', rfl, h1, h2, h3, by omega, by omega, h4⟩
   ·
    intro hc136
    have hc136d := of_decide_eq_false hc136
    obtain rfl : j = (m8 s0).1 := by omega
    refine c_exit ?_
    refine ite_t rfl ?_
    refine c_cut [67, 68, 69, 70, 71, 72, 73] (fun σ w => ∃ bd : Sl UInt8, bd.l = (m10 s0).1 ∧ bd.l.length ≤ bd.c ∧ St w1 w [rdrA w1 197 g19 (m10 s0).2, blkA g6 150 [.pointer (some ⟨g19, 0, none⟩)], blkA g8 3 [.int .i64 (mv s0)], ceA g7 114 s0 ((m5 s0).1 : Int) ((m6 s0).1 : Int) ((m7 s0).1 : Int) (decide ((m4 s0).1 = 1)) (.slice es.A es.l.length es.c) (.slice bd.A bd.l.length bd.c) 0 0 (.slice none 0 0), rowA 169 3 es.A es.l.length es.c (es.l.flatMap EntV.cells), rdsA (brp bd :: es.l.map EntV.rp)]) rfl ?_ ?_
    ·
     refine c_seq (c_region ?_)
     refine t_q (q_load1 Try.isAgg3 rfl (hS.cell (by repeat constructor) rfl)) ?_
     refine t_q (q_and rfl rfl) ?_
     refine t_q (q_cast (v' := .bool (hasF (mv s0) 32)) (q_neq rfl rfl) (congrArg Value.bool (and_ne (and_fl_32 _)))) ?_
     refine t_nil ?_
     refine c_cond rfl ?_ ?_
     ·
      intro hc141
      have hc141d := of_decide_eq_true hc141
      have hb32 : hasF (mv s0) 32 = true := hc141
      refine c_region ?_
      refine t_q (q_load1 Try.isAgg150 rfl (hS.cell (by repeat constructor) rfl)) ?_
      refine t_call Try.call118 (rm10 (s := s0) hb32 hS (by repeat constructor)) rfl ?_
      rintro e w ⟨rfl, hS⟩
      refine ⟨_, rfl, ?_⟩
      refine t_bytes Try.underlying9 Try.underlying25 Try.underlying5 hS rfl (fun g72 k72 m72 w hS => ?_)
      replace hS := hS.recast (show blkA g72 5 _ (m72, m72 + 1) = blkA g72 5 ((m10 s0).1.map bv ++ List.replicate k72 (.int .u8 0)) (m72, m72 + 1) from by simp)
      refine t_q (q_fieldAddr 9 Try.runUnderlying114 rfl Try.sizeOf25 (by decide) rfl rfl) ?_
      refine t_store (v := (.slice _ _ _)) Try.sizeOf25 hS (by repeat constructor) rfl rfl rfl rfl rfl rfl (fun w hS => ?_)
      replace hS := hS.recast (show blkA g7 114 _ = ceA g7 114 s0 ((m5 s0).1 : Int) ((m6 s0).1 : Int) ((m7 s0).1 : Int) (decide ((m4 s0).1 = 1)) (.slice es.A es.l.length es.c) (.slice (⟨some ⟨g72, 0, none⟩, (m10 s0).1.length + k72, (m10 s0).1⟩ : Sl UInt8).A (⟨some ⟨g72, 0, none⟩, (m10 s0).1.length + k72, (m10 s0).1⟩ : Sl UInt8).l.length (⟨some ⟨g72, 0, none⟩, (m10 s0).1.length + k72, (m10 s0).1⟩ : Sl UInt8).c) 0 0 (.slice none 0 0) from rfl)
      refine t_nil ?_
      first
        | exact ⟨⟨some ⟨g72, 0, none⟩, (m10 s0).1.length + k72, (m10 s0).1⟩, rfl, Nat.le_add_right _ _, (((((((((hS.pick (A := rdsA (es.l.map EntV.rp)) (by repeat constructor)).pick (A := blkA g72 5 _ (m72, m72 + 1)) (by repeat constructor)).frz_add).pick (A := rdsA _) (by repeat constructor)).pick (A := rowA 169 3 es.A es.l.length es.c (es.l.flatMap EntV.cells)) (by repeat constructor)).pick (A := blkA g7 114 _) (by repeat constructor)).pick (A := blkA g8 3 [.int .i64 (mv s0)]) (by repeat constructor)).pick (A := blkA g6 150 [.pointer (some ⟨g19, 0, none⟩)]) (by repeat constructor)).pick (A := rdrA w1 197 g19 _) (by repeat constructor))⟩
        | (have e10 : m10 s0 = ([], (m9 s0).2) := by unfold m10 oqT; rw [hb32]; rfl
           rw [e10]
           exact ⟨sl0, rfl, Nat.le_refl _, (((((((((((hS.nilrow 5 1).pick (A := rdsA (es.l.map EntV.rp)) (by repeat constructor)).pick (A := rowA 5 1 none 0 0 []) (by repeat constructor))).rds_add (f := bsf []) (Rd.none_ _ _ _ _)).pick (A := rdsA _) (by repeat constructor)).pick (A := rowA 169 3 es.A es.l.length es.c (es.l.flatMap EntV.cells)) (by repeat constructor)).pick (A := blkA g7 114 _) (by repeat constructor)).pick (A := blkA g8 3 [.int .i64 (mv s0)]) (by repeat constructor)).pick (A := blkA g6 150 [.pointer (some ⟨g19, 0, none⟩)]) (by repeat constructor)).pick (A := rdrA w1 197 g19 _) (by repeat constructor))⟩)
     ·
      intro hc141
      have hc141d := of_decide_eq_false hc141
      have hb32 : hasF (mv s0) 32 = false := hc141
      refine c_skip ?_
      first
        | exact ⟨⟨some ⟨g72, 0, none⟩, (m10 s0).1.length + k72, (m10 s0).1⟩, rfl, Nat.le_add_right _ _, (((((((((hS.pick (A := rdsA (es.l.map EntV.rp)) (by repeat constructor)).pick (A := blkA g72 5 _ (m72, m72 + 1)) (by repeat constructor)).frz_add).pick (A := rdsA _) (by repeat constructor)).pick (A := rowA 169 3 es.A es.l.length es.c (es.l.flatMap EntV.cells)) (by repeat constructor)).pick (A := blkA g7 114 _) (by repeat constructor)).pick (A := blkA g8 3 [.int .i64 (mv s0)]) (by repeat constructor)).pick (A := blkA g6 150 [.pointer (some ⟨g19, 0, none⟩)]) (by repeat constructor)).pick (A := rdrA w1 197 g19 _) (by repeat constructor))⟩
        | (have e10 : m10 s0 = ([], (m9 s0).2) := by unfold m10 oqT; rw [hb32]; rfl
           rw [e10]
           exact ⟨sl0, rfl, Nat.le_refl _, (((((((((((hS.nilrow 5 1).pick (A := rdsA (es.l.map EntV.rp)) (by repeat constructor)).pick (A := rowA 5 1 none 0 0 []) (by repeat constructor))).rds_add (f := bsf []) (Rd.none_ _ _ _ _)).pick (A := rdsA _) (by repeat constructor)).pick (A := rowA 169 3 es.A es.l.length es.c (es.l.flatMap EntV.cells)) (by repeat constructor)).pick (A := blkA g7 114 _) (by repeat constructor)).pick (A := blkA g8 3 [.int .i64 (mv s0)]) (by repeat constructor)).pick (A := blkA g6 150 [.pointer (some ⟨g19, 0, none⟩)]) (by repeat constructor)).pick (A := rdrA w1 197 g19 _) (by repeat constructor))⟩)
    ·
     rintro σ w ⟨bd, hbd, hbc, hS⟩
     refine c_seq (c_region ?_)
     refine t_q (q_mv (.func _ _ _) rfl) ?_
     refine t_callv Try.call117 rfl (rn11 (s := s0) (((hS.pick (A := blkA g8 3 [.int .i64 (mv s0)]) (by repeat constructor)).pick (A := blkA g6 150 [.pointer (some ⟨g19, 0, none⟩)]) (by repeat constructor)).pick (A := rdrA w1 197 g19 _) (by repeat constructor))) rfl ?_
     rintro e w ⟨rfl, hS⟩
     refine ⟨_, rfl, ?_⟩
     refine t_q (q_mv (.func _ _ _) rfl) ?_
     refine t_callv Try.call117 rfl (rn12 (s := s0) (((hS.pick (A := blkA g8 3 [.int .i64 (mv s0)]) (by repeat constructor)).pick (A := blkA g6 150 [.pointer (some ⟨g19, 0, none⟩)]) (by repeat constructor)).pick (A := rdrA w1 197 g19 _) (by repeat constructor))) rfl ?_
     rintro e w ⟨rfl, hS⟩
     refine ⟨_, rfl, ?_⟩
     refine t_q (q_fieldAddr 10 Try.runUnderlying114 rfl Try.sizeOf43 (by decide) rfl rfl) ?_
     refine t_store (v := (.int _ _)) Try.sizeOf43 hS (by repeat constructor) rfl rfl rfl rfl rfl rfl (fun w hS => ?_)
     replace hS := hS.recast (show blkA g7 114 _ = ceA g7 114 s0 ((m5 s0).1 : Int) ((m6 s0).1 : Int) ((m7 s0).1 : Int) (decide ((m4 s0).1 = 1)) (.slice es.A es.l.length es.c) (.slice bd.A bd.l.length bd.c) ((m11 s0).1 : Int) 0 (.slice none 0 0) from rfl)
     refine t_q (q_fieldAddr 11 Try.runUnderlying114 rfl Try.sizeOf43 (by decide) rfl rfl) ?_
     refine t_store (v := (.int _ _)) Try.sizeOf43 hS (by repeat constructor) rfl rfl rfl rfl rfl rfl (fun w hS => ?_)
     replace hS := hS.recast (show blkA g7 114 _ = ceA g7 114 s0 ((m5 s0).1 : Int) ((m6 s0).1 : Int) ((m7 s0).1 : Int) (decide ((m4 s0).1 = 1)) (.slice es.A es.l.length es.c) (.slice bd.A bd.l.length bd.c) ((m11 s0).1 : Int) ((m12 s0).1 : Int) (.slice none 0 0) from rfl)
     refine t_nil ?_
     refine c_cut [80, 81, 82, 83, 84, 85, 86, 87, 88] (fun σ w => ∃ ev : Sl Ev, ev.l = (m13 s0).1 ∧ St w1 w [rdrA w1 197 g19 (m13 s0).2, blkA g6 150 [.pointer (some ⟨g19, 0, none⟩)], blkA g8 3 [.int .i64 (mv s0)], ceA g7 114 s0 ((m5 s0).1 : Int) ((m6 s0).1 : Int) ((m7 s0).1 : Int) (decide ((m4 s0).1 = 1)) (.slice es.A es.l.length es.c) (.slice bd.A bd.l.length bd.c) ((m11 s0).1 : Int) ((m12 s0).1 : Int) (.slice ev.A ev.l.length ev.c), rowA 169 3 es.A es.l.length es.c (es.l.flatMap EntV.cells), rdsA (erp ev :: brp bd :: es.l.map EntV.rp)]) rfl ?_ ?_
     ·
      refine c_seq (c_region ?_)
      refine t_q (q_load1 Try.isAgg3 rfl (hS.cell (by repeat constructor) rfl)) ?_
      refine t_q (q_and rfl rfl) ?_
      refine t_q (q_cast (v' := .bool (hasF (mv s0) 64)) (q_neq rfl rfl) (congrArg Value.bool (and_ne (and_fl_64 _)))) ?_
      refine t_nil ?_
      refine c_cond rfl ?_ ?_
      ·
       intro hc146
       have hc146d := of_decide_eq_true hc146
       have hb64 : hasF (mv s0) 64 = true := hc146
       refine c_region ?_
       refine t_q (q_load1 Try.isAgg150 rfl (hS.cell (by repeat constructor) rfl)) ?_
       refine t_call Try.call119 (eread_calls (s := (m12 s0).2) hS (by repeat constructor) (m12_wf (by rw [hs0]; intro h; cases h))) rfl ?_
       rintro e w ⟨A85, n85, c85, rfl, hn85, hS⟩
       refine ⟨_, rfl, ?_⟩
       subst hn85
       refine t_q (q_mv (.tuple _) rfl) ?_
       refine t_q (q_extract rfl rfl) ?_
       refine t_q (q_extract rfl rfl) ?_
       refine t_q (q_fieldAddr 12 Try.runUnderlying114 rfl Try.sizeOf112 (by decide) rfl rfl) ?_
       refine t_store (v := (.slice _ _ _)) Try.sizeOf112 hS (by repeat constructor) rfl rfl rfl rfl rfl rfl (fun w hS => ?_)
       replace hS := hS.recast (show blkA g7 114 _ = ceA g7 114 s0 ((m5 s0).1 : Int) ((m6 s0).1 : Int) ((m7 s0).1 : Int) (decide ((m4 s0).1 = 1)) (.slice es.A es.l.length es.c) (.slice bd.A bd.l.length bd.c) ((m11 s0).1 : Int) ((m12 s0).1 : Int) (.slice (⟨A85, c85, evL (m12 s0).2⟩ : Sl Ev).A (⟨A85, c85, evL (m12 s0).2⟩ : Sl Ev).l.length (⟨A85, c85, evL (m12 s0).2⟩ : Sl Ev).c) from rfl)
       refine t_nil ?_
       first
         | (have e13 : m13 s0 = (evL (m12 s0).2, evS (m12 s0).2) := by unfold m13 oqE; rw [hb64]; rfl
            rw [e13]
            exact ⟨⟨A85, c85, evL (m12 s0).2⟩, rfl, ((((((((((hS.pick (A := rdsA (brp bd :: es.l.map EntV.rp)) (by repeat constructor)).pick (A := rowA 206 12 A85 _ c85 _) (by repeat constructor))).rds_add (f := evf (evL (m12 s0).2)) (rowRdE hS (by repeat constructor) rfl)).pick (A := rdsA _) (by repeat constructor)).pick (A := rowA 169 3 es.A es.l.length es.c (es.l.flatMap EntV.cells)) (by repeat constructor)).pick (A := blkA g7 114 _) (by repeat constructor)).pick (A := blkA g8 3 [.int .i64 (mv s0)]) (by repeat constructor)).pick (A := blkA g6 150 [.pointer (some ⟨g19, 0, none⟩)]) (by repeat constructor)).pick (A := rdrA w1 197 g19 _) (by repeat constructor))⟩)
         | (have e13 : m13 s0 = ([], (m12 s0).2) := by unfold m13 oqE; rw [hb64]; rfl
            rw [e13]
            exact ⟨sl0, rfl, (((((((((((hS.nilrow 206 12).pick (A := rdsA (brp bd :: es.l.map EntV.rp)) (by repeat constructor)).pick (A := rowA 206 12 none 0 0 []) (by repeat constructor))).rds_add (f := evf []) (Rd.none_ _ _ _ _)).pick (A := rdsA _) (by repeat constructor)).pick (A := rowA 169 3 es.A es.l.length es.c (es.l.flatMap EntV.cells)) (by repeat constructor)).pick (A := blkA g7 114 _) (by repeat constructor)).pick (A := blkA g8 3 [.int .i64 (mv s0)]) (by repeat constructor)).pick (A := blkA g6 150 [.pointer (some ⟨g19, 0, none⟩)]) (by repeat constructor)).pick (A := rdrA w1 197 g19 _) (by repeat constructor))⟩)
      ·
       intro hc146
       have hc146d := of_decide_eq_false hc146
       have hb64 : hasF (mv s0) 64 = false := hc146
       refine c_skip ?_
       first
         | (have e13 : m13 s0 = (evL (m12 s0).2, evS (m12 s0).2) := by unfold m13 oqE; rw [hb64]; rfl
            rw [e13]
            exact ⟨⟨A85, c85, evL (m12 s0).2⟩, rfl, ((((((((((hS.pick (A := rdsA (brp bd :: es.l.map EntV.rp)) (by repeat constructor)).pick (A := rowA 206 12 A85 _ c85 _) (by repeat constructor))).rds_add (f := evf (evL (m12 s0).2)) (rowRdE hS (by repeat constructor) rfl)).pick (A := rdsA _) (by repeat constructor)).pick (A := rowA 169 3 es.A es.l.length es.c (es.l.flatMap EntV.cells)) (by repeat constructor)).pick (A := blkA g7 114 _) (by repeat constructor)).pick (A := blkA g8 3 [.int .i64 (mv s0)]) (by repeat constructor)).pick (A := blkA g6 150 [.pointer (some ⟨g19, 0, none⟩)]) (by repeat constructor)).pick (A := rdrA w1 197 g19 _) (by repeat constructor))⟩)
         | (have e13 : m13 s0 = ([], (m12 s0).2) := by unfold m13 oqE; rw [hb64]; rfl
            rw [e13]
            exact ⟨sl0, rfl, (((((((((((hS.nilrow 206 12).pick (A := rdsA (brp bd :: es.l.map EntV.rp)) (by repeat constructor)).pick (A := rowA 206 12 none 0 0 []) (by repeat constructor))).rds_add (f := evf []) (Rd.none_ _ _ _ _)).pick (A := rdsA _) (by repeat constructor)).pick (A := rowA 169 3 es.A es.l.length es.c (es.l.flatMap EntV.cells)) (by repeat constructor)).pick (A := blkA g7 114 _) (by repeat constructor)).pick (A := blkA g8 3 [.int .i64 (mv s0)]) (by repeat constructor)).pick (A := blkA g6 150 [.pointer (some ⟨g19, 0, none⟩)]) (by repeat constructor)).pick (A := rdrA w1 197 g19 _) (by repeat constructor))⟩)
     ·
      rintro σ w ⟨ev, hev, hS⟩
      have hok : PtOk s0 es bd ev := ⟨hes, hec, hbd, hbc, hev⟩
      refine c_seq (c_seq (c_region ?_))
      refine t_q (q_load1 Try.isAgg150 rfl (hS.cell (by repeat constructor) rfl)) ?_
      refine t_call Try.call83 (rEnd hS (by repeat constructor)) rfl ?_
      rintro e w ⟨rfl, hS⟩
      refine ⟨_, rfl, ?_⟩
      have hS : St W w (_ :: _) := hS0.lift hS
      refine t_q (q_neq rfl rfl) ?_
      refine t_q (q_mv (.bool _) rfl) ?_
      refine t_case 92 rfl ?_ ?_
      ·
       intro hg152
       have hg152d := of_decide_eq_true hg152
       refine t_no rfl rfl (by rw [hg152]; decide) ?_
       refine t_no rfl rfl (by rw [hg152]; decide) ?_
       refine t_no rfl rfl (by rw [hg152]; decide) ?_
       refine t_q (q_pick_t rfl hg152) ?_
       refine t_nil ?_
       refine c_cond_t rfl rfl ?_
       have hno : RdOut bs zV 20 := by
         refine .inr ⟨rfl, rfl, fun Z' hj' he y hy => ?_⟩
         obtain rfl : Z = Z' := by rw [hj] at hj'; injection hj'
         rw [← hs0] at he hy
         first
           | (exfalso; omega)
           | (rw [soundB_vw (hy.trans (mkX_vw hok).symm)]; exact bnt (by assumption))
       refine c_seq (c_region ?_)
       refine t_q (q_build (qs := [(0, 1), (1, 1), (2, 1), (3, 1), (4, 1), (5, 1), (6, 1), (7, 1), (8, 1), (9, 1), (10, 1), (11, 1), (12, 1)]) [(.int _ _), (.int _ _), (.int _ _), (.int _ _), (.int _ _), (.int _ _), (.int _ _), (.bool _), (.slice _ _ _), (.slice _ _ _), (.int _ _), (.int _ _), (.slice _ _ _)] Try.zeroValue114 Try.runUnderlying114 ⟨rfl, Try.sizeOf3, rfl, Try.sizeOf3, rfl, Try.sizeOf3, rfl, Try.sizeOf43, rfl, Try.sizeOf43, rfl, Try.sizeOf43, rfl, Try.sizeOf43, rfl, Try.sizeOf4, rfl, Try.sizeOf111, rfl, Try.sizeOf25, rfl, Try.sizeOf43, rfl, Try.sizeOf43, rfl, Try.sizeOf112, trivial⟩ rfl rfl) ?_
       refine t_store (v := (.agg _)) Try.sizeOf114 hS (by repeat constructor) rfl rfl rfl rfl rfl rfl (fun w hS => ?_)
       refine t_q (q_assign) ?_
       refine t_nil (c_ret ?_)
       refine r_two rfl (res1_cellN Try.isAgg114 Try.sizeOf114 rfl (hS.blk (by repeat constructor)) rfl) rfl ?_
       first
         | exact ⟨zV, 20, rfl, zV_by, hno, zV_rds hS⟩
         | exact ⟨mkX s0 es bd ev, 0, rfl, mkX_by hok, hyes, mkX_rds hS (by repeat constructor) (by repeat constructor)⟩
      ·
       intro hg152
       have hg152d := of_decide_eq_false hg152
       refine t_yes rfl rfl hg152 ?_
       refine t_q (q_cast (v' := .agg (mkX s0 es bd ev).cells.toArray) (q_load_blk Try.isAgg114 Try.sizeOf114 rfl (hS.blk (by repeat constructor)) rfl) (by rfl)) ?_
       refine t_yes rfl rfl hg152 ?_
       have hXg : (mkX s0 es bd ev).Gd w := mkX_gd hok hS (by repeat constructor) (by repeat constructor)
       refine t_call Try.call59 (wsound_calls (x := mkX s0 es bd ev) hXg) rfl ?_
       rintro e w ⟨rfl, hT⟩
       refine ⟨_, rfl, ?_⟩
       replace hS := hS.after hT
       refine t_yes rfl rfl hg152 ?_
       refine t_q (q_not rfl) ?_
       refine t_q (q_pick_f rfl hg152) ?_
       refine t_nil ?_
       refine c_cond rfl ?_ ?_
       ·
        intro hc154
        have hno : RdOut bs zV 20 := by
          refine .inr ⟨rfl, rfl, fun Z' hj' he y hy => ?_⟩
          obtain rfl : Z = Z' := by rw [hj] at hj'; injection hj'
          rw [← hs0] at he hy
          first
            | (exfalso; omega)
            | (rw [soundB_vw (hy.trans (mkX_vw hok).symm)]; exact bnt (by assumption))
        refine c_seq (c_region ?_)
        refine t_q (q_build (qs := [(0, 1), (1, 1), (2, 1), (3, 1), (4, 1), (5, 1), (6, 1), (7, 1), (8, 1), (9, 1), (10, 1), (11, 1), (12, 1)]) [(.int _ _), (.int _ _), (.int _ _), (.int _ _), (.int _ _), (.int _ _), (.int _ _), (.bool _), (.slice _ _ _), (.slice _ _ _), (.int _ _), (.int _ _), (.slice _ _ _)] Try.zeroValue114 Try.runUnderlying114 ⟨rfl, Try.sizeOf3, rfl, Try.sizeOf3, rfl, Try.sizeOf3, rfl, Try.sizeOf43, rfl, Try.sizeOf43, rfl, Try.sizeOf43, rfl, Try.sizeOf43, rfl, Try.sizeOf4, rfl, Try.sizeOf111, rfl, Try.sizeOf25, rfl, Try.sizeOf43, rfl, Try.sizeOf43, rfl, Try.sizeOf112, trivial⟩ rfl rfl) ?_
        refine t_store (v := (.agg _)) Try.sizeOf114 hS (by repeat constructor) rfl rfl rfl rfl rfl rfl (fun w hS => ?_)
        refine t_q (q_assign) ?_
        refine t_nil (c_ret ?_)
        refine r_two rfl (res1_cellN Try.isAgg114 Try.sizeOf114 rfl (hS.blk (by repeat constructor)) rfl) rfl ?_
        first
          | exact ⟨zV, 20, rfl, zV_by, hno, zV_rds hS⟩
          | exact ⟨mkX s0 es bd ev, 0, rfl, mkX_by hok, hyes, mkX_rds hS (by repeat constructor) (by repeat constructor)⟩
       ·
        intro hc154
        have hyes : RdOut bs (mkX s0 es bd ev) 0 := .inl ⟨rfl, Z, hj, by rw [← hs0]; exact mkX_vw hok, by rw [← hs0]; omega, bnf (by assumption)⟩
        refine c_skip (c_seq (c_region ?_))
        refine t_q (q_cast (v' := .agg (mkX s0 es bd ev).cells.toArray) (q_load_blk Try.isAgg114 Try.sizeOf114 rfl (hS.blk (by repeat constructor)) rfl) (by rfl)) ?_
        refine t_store (v := (.agg _)) Try.sizeOf114 hS (by repeat constructor) rfl rfl rfl rfl rfl rfl (fun w hS => ?_)
        refine t_q (q_assign) ?_
        refine t_nil (c_ret ?_)
        refine r_two rfl (res1_cellN Try.isAgg114 Try.sizeOf114 rfl (hS.blk (by repeat constructor)) rfl) rfl ?_
        first
          | exact ⟨zV, 20, rfl, zV_by, hno, zV_rds hS⟩
          | exact ⟨mkX s0 es bd ev, 0, rfl, mkX_by hok, hyes, mkX_rds hS (by repeat constructor) (by repeat constructor)⟩
end Go.Proofs.Ytlppgpidakfnlaa
