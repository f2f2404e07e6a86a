/- Rule sets read from bytes. -/
import Derived.Test.YtmgobaojioaioaaDoorUe
import Derived.Test.YtmgobaojioaioaaDoorCr
namespace Go.Proofs.YtmgobaojioaioaaDoor
open Go Go.RowKit Go.Lib
variable {W : World}
/-- what is read of a rule set, step by step -/
def tkR (s : Rs) : Tk × Rs := (⟨s.int.1, s.int.2.int.1⟩, s.int.2.int.2)
def trR (s : Rs) : Tr × Rs := (⟨s.int.1, s.int.2.int.1, s.int.2.int.2.int.1⟩, s.int.2.int.2.int.2)
def tkk (s : Rs) : Nat → List Tk × Rs
  | 0 => ([], s)
  | k + 1 => ((tkk s k).1 ++ [(tkR (tkk s k).2).1], (tkR (tkk s k).2).2)
def trk (s : Rs) : Nat → List Tr × Rs
  | 0 => ([], s)
  | k + 1 => ((trk s k).1 ++ [(trR (trk s k).2).1], (trR (trk s k).2).2)
theorem tkk_len (s : Rs) : ∀ k, (tkk s k).1.length = k
  | 0 => rfl
  | k + 1 => by rw [tkk, List.length_append, tkk_len s k]; rfl
theorem trk_len (s : Rs) : ∀ k, (trk s k).1.length = k
  | 0 => rfl
  | k + 1 => by rw [trk, List.length_append, trk_len s k]; rfl
theorem int_in (s : Rs) : -9223372036854775808 ≤ s.int.1 ∧ s.int.1 ≤ 9223372036854775807 := unzig_range (by have := s.nat_le allNat; unfold allNat at *; omega)
theorem tkR_in (s : Rs) : (tkR s).1.In := ⟨int_in _, int_in _⟩
theorem trR_in (s : Rs) : (trR s).1.In := ⟨int_in _, int_in _, int_in _⟩
theorem tkk_in (s : Rs) : ∀ k, ∀ e ∈ (tkk s k).1, e.In
  | 0, _, h => by cases h
  | k + 1, e, h => by
    rw [tkk] at h
    rcases List.mem_append.1 h with h | h
    · exact tkk_in s k e h
    · rw [List.mem_singleton.1 h]; exact tkR_in _
theorem trk_in (s : Rs) : ∀ k, ∀ e ∈ (trk s k).1, e.In
  | 0, _, h => by cases h
  | k + 1, e, h => by
    rw [trk] at h
    rcases List.mem_append.1 h with h | h
    · exact trk_in s k e h
    · rw [List.mem_singleton.1 h]; exact trR_in _
def q0 (s : Rs) : Int × Rs := s.int
def q1 (s : Rs) : Nat × Rs := (q0 s).2.nat 8
def q2 (s : Rs) : List Tk × Rs := tkk (q1 s).2 (q1 s).1
def q3 (s : Rs) : Int × Rs := (q2 s).2.int
def q4 (s : Rs) : Int × Rs := (q3 s).2.int
def q5 (s : Rs) : Nat × Rs := (q4 s).2.nat 8
def q6 (s : Rs) : List Tr × Rs := trk (q5 s).2 (q5 s).1
def q7 (s : Rs) : Int × Rs := (q6 s).2.int
def q8 (s : Rs) : Int × Rs := (q7 s).2.int
def q9 (s : Rs) : Int × Rs := (q8 s).2.int
def q10 (s : Rs) : Int × Rs := (q9 s).2.int
/-- what was read, whether it may be or not -/
def ruV (s : Rs) (A : Option Addr) (c : Nat) (B : Option Addr) (d : Nat) : RuV := ⟨(q0 s).1, ⟨A, c, (q2 s).1⟩, (q3 s).1, (q4 s).1, ⟨B, d, (q6 s).1⟩, (q7 s).1, (q8 s).1, (q9 s).1, (q10 s).1⟩
def ruZ : RuV := ⟨0, ⟨none, 0, []⟩, 0, 0, ⟨none, 0, []⟩, 0, 0, 0, 0⟩
def ruOk (s : Rs) : Bool := !(q10 s).2.bad && goodR (ruV s none 0 none 0)
/-- what is told: none, if it may not be; and the reader behind it -/
def ruT (s : Rs) (A : Option Addr) (c : Nat) (B : Option Addr) (d : Nat) : RuV := if ruOk s then ruV s A c B d else ruZ
def ruS (s : Rs) : Rs := if ruOk s then (q10 s).2 else s.fail
theorem ruOk_bad {s : Rs} (h : (q10 s).2.bad = true) : ruOk s = false := by unfold ruOk; rw [h]; rfl
theorem ruOk_not {s : Rs} {A B : Option Addr} {c d : Nat} (h : goodR (ruV s A c B d) = false) : ruOk s = false := by unfold ruOk; rw [show goodR (ruV s none 0 none 0) = false from h, Bool.and_false]
theorem ruOk_yes {s : Rs} {A B : Option Addr} {c d : Nat} (h0 : (q10 s).2.bad = false) (h : goodR (ruV s A c B d) = true) : ruOk s = true := by unfold ruOk; rw [h0, show goodR (ruV s none 0 none 0) = true from h]; rfl
theorem ruT_no {s : Rs} {A B : Option Addr} {c d : Nat} (h : ruOk s = false) : ruT s A c B d = ruZ ∧ ruS s = s.fail := by unfold ruT ruS; rw [h]; exact ⟨rfl, rfl⟩
theorem ruT_yes {s : Rs} {A B : Option Addr} {c d : Nat} (h : ruOk s = true) : ruT s A c B d = ruV s A c B d ∧ ruS s = (q10 s).2 := by unfold ruT ruS; rw [h]; exact ⟨rfl, rfl⟩
theorem q0_in (s : Rs) : -9223372036854775808 ≤ (q0 s).1 ∧ (q0 s).1 ≤ 9223372036854775807 := by unfold q0; exact int_in _
theorem q3_in (s : Rs) : -9223372036854775808 ≤ (q3 s).1 ∧ (q3 s).1 ≤ 9223372036854775807 := by unfold q3; exact int_in _
theorem q4_in (s : Rs) : -9223372036854775808 ≤ (q4 s).1 ∧ (q4 s).1 ≤ 9223372036854775807 := by unfold q4; exact int_in _
theorem q7_in (s : Rs) : -9223372036854775808 ≤ (q7 s).1 ∧ (q7 s).1 ≤ 9223372036854775807 := by unfold q7; exact int_in _
theorem q8_in (s : Rs) : -9223372036854775808 ≤ (q8 s).1 ∧ (q8 s).1 ≤ 9223372036854775807 := by unfold q8; exact int_in _
theorem q9_in (s : Rs) : -9223372036854775808 ≤ (q9 s).1 ∧ (q9 s).1 ≤ 9223372036854775807 := by unfold q9; exact int_in _
theorem q10_in (s : Rs) : -9223372036854775808 ≤ (q10 s).1 ∧ (q10 s).1 ≤ 9223372036854775807 := by unfold q10; exact int_in _
theorem q1_le (s : Rs) : (q1 s).1 ≤ 8 := by unfold q1; exact Rs.nat_le _ _
theorem q5_le (s : Rs) : (q5 s).1 ≤ 8 := by unfold q5; exact Rs.nat_le _ _
theorem q2_len (s : Rs) : (q2 s).1.length = (q1 s).1 := by unfold q2; exact tkk_len _ _
theorem q6_len (s : Rs) : (q6 s).1.length = (q5 s).1 := by unfold q6; exact trk_len _ _
theorem q2_in (s : Rs) : ∀ e ∈ (q2 s).1, e.In := by unfold q2; exact tkk_in _ _
theorem q6_in (s : Rs) : ∀ e ∈ (q6 s).1, e.In := by unfold q6; exact trk_in _ _
theorem q2_le (s : Rs) : (q2 s).1.length ≤ 1000000 := by rw [q2_len]; exact Nat.le_trans (q1_le s) (by decide)
theorem q6_le (s : Rs) : (q6 s).1.length ≤ 1000000 := by rw [q6_len]; exact Nat.le_trans (q5_le s) (by decide)
section
attribute [local irreducible] q0 q1 q2 q3 q4 q5 q6 q7 q8 q9 q10
theorem ruV_gd {w : World} {s : Rs} {A B : Option Addr} {c d : Nat} (h1 : RdTk w A (q2 s).1) (h2 : RdTr w B (q6 s).1) : (ruV s A c B d).Gd w :=
  ⟨q0_in s, q3_in s, q4_in s, q7_in s, q8_in s, q9_in s, q10_in s, h1, q2_in s, q2_le s, h2, q6_in s, q6_le s⟩
end
theorem ruZ_gd {w : World} : ruZ.Gd w := ⟨by decide, by decide, by decide, by decide, by decide, by decide, by decide, Rd.none_ _ _ _ _, (fun e he => by cases he), Nat.zero_le _, Rd.none_ _ _ _ _, (fun e he => by cases he), Nat.zero_le _⟩
theorem tkR_only {s : Rs} (h : (tkR s).2.bad = false) : s.left = tkB (tkR s).1 ++ (tkR s).2.left ∧ s.bad = false := by
  obtain ⟨e2, h⟩ := Rs.int_only (s := s.int.2) h
  obtain ⟨e1, h⟩ := Rs.int_only h
  refine ⟨?_, h⟩
  rw [e2] at e1
  rw [e1]
  simp [tkB, tkR]
theorem trR_only {s : Rs} (h : (trR s).2.bad = false) : s.left = trB (trR s).1 ++ (trR s).2.left ∧ s.bad = false := by
  obtain ⟨e3, h⟩ := Rs.int_only (s := s.int.2.int.2) h
  obtain ⟨e2, h⟩ := Rs.int_only h
  obtain ⟨e1, h⟩ := Rs.int_only h
  refine ⟨?_, h⟩
  rw [e3] at e2
  rw [e2] at e1
  rw [e1]
  simp [trB, trR]
theorem tkk_only {s : Rs} : ∀ {k : Nat}, (tkk s k).2.bad = false → s.left = (tkk s k).1.flatMap tkB ++ (tkk s k).2.left ∧ s.bad = false
  | 0, h => ⟨rfl, h⟩
  | k + 1, h => by
    obtain ⟨e1, h1⟩ := tkR_only (s := (tkk s k).2) h
    obtain ⟨e2, h2⟩ := tkk_only h1
    refine ⟨?_, h2⟩
    rw [tkk]
    dsimp only
    rw [List.flatMap_append, List.append_assoc]
    simp only [List.flatMap_cons, List.flatMap_nil, List.append_nil]
    rw [← e1]
    exact e2
theorem trk_only {s : Rs} : ∀ {k : Nat}, (trk s k).2.bad = false → s.left = (trk s k).1.flatMap trB ++ (trk s k).2.left ∧ s.bad = false
  | 0, h => ⟨rfl, h⟩
  | k + 1, h => by
    obtain ⟨e1, h1⟩ := trR_only (s := (trk s k).2) h
    obtain ⟨e2, h2⟩ := trk_only h1
    refine ⟨?_, h2⟩
    rw [trk]
    dsimp only
    rw [List.flatMap_append, List.append_assoc]
    simp only [List.flatMap_cons, List.flatMap_nil, List.append_nil]
    rw [← e1]
    exact e2
theorem ints4 (a b c d : Int) : ints [a, b, c, d] = enc (zig a) ++ (enc (zig b) ++ (enc (zig c) ++ enc (zig d))) := by simp [ints]
theorem ruB_flat (x : RuV) : ruB x = enc (zig x.version) ++ (enc x.ticks.l.length ++ (x.ticks.l.flatMap tkB ++ (enc (zig x.lot) ++ (enc (zig x.band) ++ (enc x.fees.l.length ++ (x.fees.l.flatMap trB ++ (enc (zig x.round) ++ (enc (zig x.priority) ++ (enc (zig x.self) ++ enc (zig x.layout)))))))))) := by
  unfold ruB ru5 ru4 ru3 ru2 ru1
  rw [ints4]
  simp only [List.append_assoc]
theorem int_go {n : Int} {s : Rs} {rest : List UInt8} {c : Bool} (hs : s = ⟨enc (zig n) ++ rest, c⟩) (h : -9223372036854775808 ≤ n ∧ n ≤ 9223372036854775807) : s.int = (n, ⟨rest, c⟩) := by subst hs; exact Rs.int_enc h.1 h.2 _ _
theorem nat_go {m n : Nat} {s : Rs} {rest : List UInt8} {c : Bool} (hs : s = ⟨enc n ++ rest, c⟩) (hn : n ≤ m) (hm : m < 18446744073709551616) : s.nat m = (n, ⟨rest, c⟩) := by subst hs; exact Rs.nat_enc hn hm _ _
theorem tkR_enc {e : Tk} (h : e.In) (rest : List UInt8) (b : Bool) : tkR ⟨tkB e ++ rest, b⟩ = (e, ⟨rest, b⟩) := by
  unfold tkR tkB
  simp only [List.append_assoc, Rs.int_enc h.1.1 h.1.2, Rs.int_enc h.2.1 h.2.2]
theorem trR_enc {e : Tr} (h : e.In) (rest : List UInt8) (b : Bool) : trR ⟨trB e ++ rest, b⟩ = (e, ⟨rest, b⟩) := by
  unfold trR trB
  simp only [List.append_assoc, Rs.int_enc h.1.1 h.1.2, Rs.int_enc h.2.1.1 h.2.1.2, Rs.int_enc h.2.2.1 h.2.2.2]
theorem tkk_enc {l : List Tk} (h : ∀ e ∈ l, e.In) (rest : List UInt8) (b : Bool) : ∀ k, k ≤ l.length → tkk ⟨l.flatMap tkB ++ rest, b⟩ k = (l.take k, ⟨(l.drop k).flatMap tkB ++ rest, b⟩)
  | 0, _ => rfl
  | k + 1, hk => by
    rw [tkk, tkk_enc h rest b k (by omega)]
    dsimp only
    rw [List.drop_eq_getElem_cons (show k < l.length by omega), List.flatMap_cons, List.append_assoc, tkR_enc (h _ (List.getElem_mem _)), List.take_succ_eq_append_getElem (by omega)]
theorem trk_enc {l : List Tr} (h : ∀ e ∈ l, e.In) (rest : List UInt8) (b : Bool) : ∀ k, k ≤ l.length → trk ⟨l.flatMap trB ++ rest, b⟩ k = (l.take k, ⟨(l.drop k).flatMap trB ++ rest, b⟩)
  | 0, _ => rfl
  | k + 1, hk => by
    rw [trk, trk_enc h rest b k (by omega)]
    dsimp only
    rw [List.drop_eq_getElem_cons (show k < l.length by omega), List.flatMap_cons, List.append_assoc, trR_enc (h _ (List.getElem_mem _)), List.take_succ_eq_append_getElem (by omega)]
theorem tkk_go {l : List Tk} {k : Nat} {s : Rs} {rest : List UInt8} {c : Bool} (hk : k = l.length) (hs : s = ⟨l.flatMap tkB ++ rest, c⟩) (h : ∀ e ∈ l, e.In) : tkk s k = (l, ⟨rest, c⟩) := by
  subst hk hs
  rw [tkk_enc h _ _ _ (Nat.le_refl _), List.take_length, List.drop_length, List.flatMap_nil, List.nil_append]
theorem trk_go {l : List Tr} {k : Nat} {s : Rs} {rest : List UInt8} {c : Bool} (hk : k = l.length) (hs : s = ⟨l.flatMap trB ++ rest, c⟩) (h : ∀ e ∈ l, e.In) : trk s k = (l, ⟨rest, c⟩) := by
  subst hk hs
  rw [trk_enc h _ _ _ (Nat.le_refl _), List.take_length, List.drop_length, List.flatMap_nil, List.nil_append]
/-- a rule set's bytes are read as it was -/
theorem ru_back {w : World} {x : RuV} (hx : x.Gd w) (h1 : x.ticks.l.length ≤ 8) (h2 : x.fees.l.length ≤ 8) (rest : List UInt8) (A : Option Addr) (c : Nat) (B : Option Addr) (d : Nat) : (ruV ⟨ruB x ++ rest, false⟩ A c B d).vw = x.vw ∧ (q10 ⟨ruB x ++ rest, false⟩).2 = ⟨rest, false⟩ := by
  obtain ⟨s, hs⟩ : ∃ s : Rs, s = ⟨ruB x ++ rest, false⟩ := ⟨_, rfl⟩
  rw [← hs]
  rw [ruB_flat] at hs
  simp only [List.append_assoc] at hs
  have z0 := int_go hs hx.version
  change q0 s = _ at z0
  have z1 := nat_go (m := 8) (congrArg Prod.snd z0) h1 (by decide)
  change q1 s = _ at z1
  have z2 := tkk_go (congrArg Prod.fst z1) (congrArg Prod.snd z1) hx.tin
  change q2 s = _ at z2
  have z3 := int_go (congrArg Prod.snd z2) hx.lot
  change q3 s = _ at z3
  have z4 := int_go (congrArg Prod.snd z3) hx.band
  change q4 s = _ at z4
  have z5 := nat_go (m := 8) (congrArg Prod.snd z4) h2 (by decide)
  change q5 s = _ at z5
  have z6 := trk_go (congrArg Prod.fst z5) (congrArg Prod.snd z5) hx.fin
  change q6 s = _ at z6
  have z7 := int_go (congrArg Prod.snd z6) hx.round
  change q7 s = _ at z7
  have z8 := int_go (congrArg Prod.snd z7) hx.priority
  change q8 s = _ at z8
  have z9 := int_go (congrArg Prod.snd z8) hx.self
  change q9 s = _ at z9
  have z10 := int_go (congrArg Prod.snd z9) hx.layout
  change q10 s = _ at z10
  refine ⟨?_, by rw [z10]⟩
  unfold RuV.vw ruV
  dsimp only
  rw [z0, z2, z3, z4, z6, z7, z8, z9, z10]
theorem ru_yes {w : World} {x : RuV} (hx : x.Gd w) (hg : goodR x = true) (rest : List UInt8) (A : Option Addr) (c : Nat) (B : Option Addr) (d : Nat) : ruOk ⟨ruB x ++ rest, false⟩ = true ∧ (ruT ⟨ruB x ++ rest, false⟩ A c B d).vw = x.vw ∧ ruS ⟨ruB x ++ rest, false⟩ = ⟨rest, false⟩ := by
  obtain ⟨_, g2, _, g4, _⟩ := goodR_iff.1 hg
  obtain ⟨e1, e2⟩ := ru_back hx g2.2.1 g4.2.1 rest A c B d
  have ho : ruOk ⟨ruB x ++ rest, false⟩ = true := ruOk_yes (A := A) (c := c) (B := B) (d := d) (by rw [e2]) (by rw [goodR_vw e1]; exact hg)
  obtain ⟨t1, t2⟩ := ruT_yes (A := A) (c := c) (B := B) (d := d) ho
  exact ⟨ho, by rw [t1]; exact e1, by rw [t2]; exact e2⟩
theorem rq1 {w : World} {L R : List Asn} {g : Nat} {s : Rs} (hS : St W w L) (pk : Pick L (rdrA W 93 g (q0 s).2) R) : Calls Tryd.prog 57 #[.pointer (some ⟨g, 0, none⟩), .int .u64 8] w fun e w' => e = .returned (.int .u64 ((q1 s).1 : Int)) ∧ St W w' (rdrA W 93 g (q1 s).2 :: R) := rNat (most := 8) hS pk (by decide) (by decide)
theorem rq5 {w : World} {L R : List Asn} {g : Nat} {s : Rs} (hS : St W w L) (pk : Pick L (rdrA W 93 g (q4 s).2) R) : Calls Tryd.prog 57 #[.pointer (some ⟨g, 0, none⟩), .int .u64 8] w fun e w' => e = .returned (.int .u64 ((q5 s).1 : Int)) ∧ St W w' (rdrA W 93 g (q5 s).2 :: R) := rNat (most := 8) hS pk (by decide) (by decide)
theorem rq3 {w : World} {L R : List Asn} {g : Nat} {s : Rs} (hS : St W w L) (pk : Pick L (rdrA W 93 g (q2 s).2) R) : Calls Tryd.prog 56 #[.pointer (some ⟨g, 0, none⟩)] w fun e w' => e = .returned (.int .i64 (q3 s).1) ∧ St W w' (rdrA W 93 g (q3 s).2 :: R) := rInt hS pk
theorem rq4 {w : World} {L R : List Asn} {g : Nat} {s : Rs} (hS : St W w L) (pk : Pick L (rdrA W 93 g (q3 s).2) R) : Calls Tryd.prog 56 #[.pointer (some ⟨g, 0, none⟩)] w fun e w' => e = .returned (.int .i64 (q4 s).1) ∧ St W w' (rdrA W 93 g (q4 s).2 :: R) := rInt hS pk
attribute [local irreducible] blkA rowA rdrA Rs.nat Rs.int
set_option maxRecDepth 100000 in
theorem rnum1_calls {w : World} {R : List Asn} {g g1 : Nat} {s : Rs} (hS : St W w (rdrA W 93 g s :: blkA g1 50 [.pointer (some ⟨g, 0, none⟩)] :: R)) : Calls Tryd.prog 55 #[.pointer (some ⟨g1, 0, none⟩)] w fun e w' => e = .returned (.int .i64 s.int.1) ∧ St W w' (rdrA W 93 g s.int.2 :: blkA g1 50 [.pointer (some ⟨g, 0, none⟩)] :: R) := by
  refine calls_of_wpE (args := [_]) Tryd.func55 rfl rfl rfl ?_
  refine c_seq ?_
  refine c_region ?_
  refine t_q (q_assign) ?_
  refine t_nil ?_
  refine c_seq ?_
  refine c_region ?_
  refine t_q (q_load1 Tryd.isAgg50 rfl (hS.cell (by repeat first | exact .here _ _ | assumption | apply Pick.there) rfl)) ?_
  refine t_call Tryd.call56 (rInt hS (.here _ _)) rfl ?_
  rintro e w ⟨rfl, hS⟩
  refine ⟨_, rfl, ?_⟩
  refine t_q (q_as (.int _ _) rfl) ?_
  refine t_nil ?_
  refine c_ret ?_
  refine r_one rfl rfl ?_
  exact ⟨rfl, hS⟩
theorem rc0 {w : World} {R : List Asn} {g g1 : Nat} {s : Rs} (hS : St W w (rdrA W 93 g s :: blkA g1 50 [.pointer (some ⟨g, 0, none⟩)] :: R)) : Calls Tryd.prog 55 #[.pointer (some ⟨g1, 0, none⟩)] w fun e w' => e = .returned (.int .i64 (q0 s).1) ∧ St W w' (rdrA W 93 g (q0 s).2 :: blkA g1 50 [.pointer (some ⟨g, 0, none⟩)] :: R) := rnum1_calls hS
theorem rc7 {w : World} {R : List Asn} {g g1 : Nat} {s : Rs} (hS : St W w (rdrA W 93 g (q6 s).2 :: blkA g1 50 [.pointer (some ⟨g, 0, none⟩)] :: R)) : Calls Tryd.prog 55 #[.pointer (some ⟨g1, 0, none⟩)] w fun e w' => e = .returned (.int .i64 (q7 s).1) ∧ St W w' (rdrA W 93 g (q7 s).2 :: blkA g1 50 [.pointer (some ⟨g, 0, none⟩)] :: R) := rnum1_calls hS
theorem rc8 {w : World} {R : List Asn} {g g1 : Nat} {s : Rs} (hS : St W w (rdrA W 93 g (q7 s).2 :: blkA g1 50 [.pointer (some ⟨g, 0, none⟩)] :: R)) : Calls Tryd.prog 55 #[.pointer (some ⟨g1, 0, none⟩)] w fun e w' => e = .returned (.int .i64 (q8 s).1) ∧ St W w' (rdrA W 93 g (q8 s).2 :: blkA g1 50 [.pointer (some ⟨g, 0, none⟩)] :: R) := rnum1_calls hS
theorem rc9 {w : World} {R : List Asn} {g g1 : Nat} {s : Rs} (hS : St W w (rdrA W 93 g (q8 s).2 :: blkA g1 50 [.pointer (some ⟨g, 0, none⟩)] :: R)) : Calls Tryd.prog 55 #[.pointer (some ⟨g1, 0, none⟩)] w fun e w' => e = .returned (.int .i64 (q9 s).1) ∧ St W w' (rdrA W 93 g (q9 s).2 :: blkA g1 50 [.pointer (some ⟨g, 0, none⟩)] :: R) := rnum1_calls hS
theorem rc10 {w : World} {R : List Asn} {g g1 : Nat} {s : Rs} (hS : St W w (rdrA W 93 g (q9 s).2 :: blkA g1 50 [.pointer (some ⟨g, 0, none⟩)] :: R)) : Calls Tryd.prog 55 #[.pointer (some ⟨g1, 0, none⟩)] w fun e w' => e = .returned (.int .i64 (q10 s).1) ∧ St W w' (rdrA W 93 g (q10 s).2 :: blkA g1 50 [.pointer (some ⟨g, 0, none⟩)] :: R) := rnum1_calls hS
set_option maxHeartbeats 4000000 in
set_option maxRecDepth 100000 in
theorem rread_calls {w : World} {L R : List Asn} {g : Nat} {s : Rs} (hS : St W w L) (pk : Pick L (rdrA W 93 g s) R) : Calls Tryd.prog 23 #[.pointer (some ⟨g, 0, none⟩)] w fun e w' => ∃ x : RuV, e = .returned (.tuple #[.agg x.cells.toArray, .bool (ruOk s)]) ∧ (∃ A c B d, x = ruT s A c B d) ∧ St W w' (rdrA W 93 g (ruS s) :: rowA 40 2 x.ticks.A x.ticks.l.length x.ticks.c ((x.ticks.l).flatMap Tk.cells) :: rowA 42 3 x.fees.A x.fees.l.length x.fees.c ((x.fees.l).flatMap Tr.cells) :: R) := by
  replace hS := hS.pick pk
  clear pk
  have hn1 : (q1 s).1 ≤ 8 := Rs.nat_le _ _
  have hn5 : (q5 s).1 ≤ 8 := Rs.nat_le _ _
  have hl2 : (q2 s).1.length = (q1 s).1 := tkk_len _ _
  have hl6 : (q6 s).1.length = (q5 s).1 := trk_len _ _
  refine calls_of_wpE (args := [_]) Tryd.func23 rfl rfl rfl ?_
  refine c_seq ?_
  refine c_region ?_
  refine t_box (v := (.pointer _)) rfl rfl hS (fun g1 w hS => ?_)
  refine t_alloc Tryd.zeroValue25 rfl hS (fun g2 w hS => ?_)
  refine t_q (q_assign) ?_
  refine t_nil ?_
  refine c_seq ?_
  refine c_region ?_
  refine t_q (q_makeFunc rfl) ?_
  refine t_q (q_as (.func _ _ _) rfl) ?_
  refine t_nil ?_
  refine c_seq ?_
  refine c_region ?_
  refine t_q (q_mv (.func _ _ _) rfl) ?_
  refine t_callv Tryd.call55 rfl (rc0 (s := s) ((hS.pick (A := blkA g1 50 [.pointer (some ⟨g, 0, none⟩)]) (by repeat first | exact .here _ _ | assumption | apply Pick.there)).pick (A := rdrA W 93 g _) (by repeat first | exact .here _ _ | assumption | apply Pick.there))) rfl ?_
  rintro e w ⟨rfl, hS⟩
  refine ⟨_, rfl, ?_⟩
  refine t_q (q_build (qs := [(0, 1), (1, 1), (2, 1), (3, 1), (4, 1), (5, 1), (6, 1), (7, 1), (8, 1)]) [(.int _ _), (.slice _ _ _), (.int _ _), (.int _ _), (.slice _ _ _), (.int _ _), (.int _ _), (.int _ _), (.int _ _)] Tryd.zeroValue25 Tryd.runUnderlying25 ⟨rfl, Tryd.sizeOf3, rfl, Tryd.sizeOf22, rfl, Tryd.sizeOf2, rfl, Tryd.sizeOf2, rfl, Tryd.sizeOf23, rfl, Tryd.sizeOf3, rfl, Tryd.sizeOf3, rfl, Tryd.sizeOf3, rfl, Tryd.sizeOf3, trivial⟩ rfl rfl) ?_
  refine t_alloc Tryd.zeroValue25 rfl hS (fun g5 w hS => ?_)
  refine t_store (v := (.agg _)) Tryd.sizeOf25 hS (by repeat first | exact .here _ _ | assumption | apply Pick.there) rfl rfl rfl rfl rfl rfl (fun w hS => ?_)
  replace hS := hS.recast (show blkA g5 25 _ = blkA g5 25 [.int .i64 (q0 s).1, .slice none 0 0, .int .i64 0, .int .i64 0, .slice none 0 0, .int .i64 0, .int .i64 0, .int .i64 0, .int .i64 0] from rfl)
  refine t_nil ?_
  refine c_seq ?_
  refine c_seq ?_
  refine c_region ?_
  refine t_q (q_load1 Tryd.isAgg50 rfl (hS.cell (by repeat first | exact .here _ _ | assumption | apply Pick.there) rfl)) ?_
  refine t_call Tryd.call57 (rq1 (s := s) hS (by repeat first | exact .here _ _ | assumption | apply Pick.there)) rfl ?_
  rintro e w ⟨rfl, hS⟩
  refine ⟨_, rfl, ?_⟩
  refine t_q (q_move) ?_
  refine t_nil ?_
  refine c_block ?_
  refine c_loop [12, 13, 14, 15, 16, 17, 18, 19, 20, 21, 22, 23, 24] (fun k σ w => ∃ (j : Nat) (At : Option Addr) (ct : Nat), σ 12 = .int .u64 (j : Int) ∧ j ≤ (q1 s).1 ∧ (q1 s).1 - j ≤ k ∧ St W w (rdrA W 93 g (tkk (q1 s).2 j).2 :: blkA g1 50 [.pointer (some ⟨g, 0, none⟩)] :: blkA g5 25 [.int .i64 (q0 s).1, .slice At j ct, .int .i64 0, .int .i64 0, .slice none 0 0, .int .i64 0, .int .i64 0, .int .i64 0, .int .i64 0] :: blkA g2 25 [.int .i64 0, .slice none 0 0, .int .i64 0, .int .i64 0, .slice none 0 0, .int .i64 0, .int .i64 0, .int .i64 0, .int .i64 0] :: rowA 40 2 At j ct (((tkk (q1 s).2 j).1).flatMap Tk.cells) :: R)) ((q1 s).1) rfl (⟨0, none, 0, rfl, by omega, by omega, ((((((hS.nilrow 40 2).pick (A := rowA 40 2 none 0 0 []) (by repeat first | exact .here _ _ | assumption | apply Pick.there)).pick (A := blkA g2 25 _) (by repeat first | exact .here _ _ | assumption | apply Pick.there)).pick (A := blkA g5 25 _) (by repeat first | exact .here _ _ | assumption | apply Pick.there)).pick (A := blkA g1 50 [.pointer (some ⟨g, 0, none⟩)]) (by repeat first | exact .here _ _ | assumption | apply Pick.there)).pick (A := rdrA W 93 g _) (by repeat first | exact .here _ _ | assumption | apply Pick.there))⟩) ?_
  skip
  rintro k σ w ⟨j, At, ct, h12, hj, hk, hS⟩
  refine c_know 12 h12 ?_
  clear h12
  refine c_seq ?_
  refine c_region ?_
  refine t_q (q_lss rfl rfl) ?_
  refine t_nil ?_
  refine c_seq ?_
  refine c_cond rfl ?_ ?_
  · intro hc4
    have hc4d := of_decide_eq_true hc4
    refine c_skip ?_
    refine c_seq ?_
    refine c_block ?_
    refine c_draw ?_
    refine d_keep2 (blkA g1 50 [.pointer (some ⟨g, 0, none⟩)]) (blkA g5 25 [.int .i64 (q0 s).1, .slice At j ct, .int .i64 0, .int .i64 0, .slice none 0 0, .int .i64 0, .int .i64 0, .int .i64 0, .int .i64 0]) 11 [0, 1, 2, 3, 4, 5, 6, 7, 8, 9, 10] [0, 1, 2, 3, 4, 5, 6, 7, 8, 9, 10] hS rfl (by kernel_rfl) (by kernel_rfl) (by kernel_rfl) (by kernel_rfl) (fun hap hsel w hS => ?_)
    refine p_q hap hsel 0 rfl rfl ⟨_, ((hS.pick (A := blkA g5 25 [.int .i64 (q0 s).1, .slice At j ct, .int .i64 0, .int .i64 0, .slice none 0 0, .int .i64 0, .int .i64 0, .int .i64 0, .int .i64 0]) (by repeat first | exact .here _ _ | assumption | apply Pick.there)).pick (A := blkA g1 50 [.pointer (some ⟨g, 0, none⟩)]) (by repeat first | exact .here _ _ | assumption | apply Pick.there))⟩ (fun w hI => q_fieldAddr 1 Tryd.runUnderlying25 rfl Tryd.sizeOf22 (by decide) rfl rfl) ?_
    refine p_q hap hsel 1 rfl rfl ⟨_, ((hS.pick (A := blkA g5 25 [.int .i64 (q0 s).1, .slice At j ct, .int .i64 0, .int .i64 0, .slice none 0 0, .int .i64 0, .int .i64 0, .int .i64 0, .int .i64 0]) (by repeat first | exact .here _ _ | assumption | apply Pick.there)).pick (A := blkA g1 50 [.pointer (some ⟨g, 0, none⟩)]) (by repeat first | exact .here _ _ | assumption | apply Pick.there))⟩ (fun w hI => q_load1 Tryd.isAgg22 rfl (hI.choose_spec.cell (by repeat first | exact .here _ _ | assumption | apply Pick.there) rfl)) ?_
    refine p_q hap hsel 2 rfl rfl ⟨_, ((hS.pick (A := blkA g5 25 [.int .i64 (q0 s).1, .slice At j ct, .int .i64 0, .int .i64 0, .slice none 0 0, .int .i64 0, .int .i64 0, .int .i64 0, .int .i64 0]) (by repeat first | exact .here _ _ | assumption | apply Pick.there)).pick (A := blkA g1 50 [.pointer (some ⟨g, 0, none⟩)]) (by repeat first | exact .here _ _ | assumption | apply Pick.there))⟩ (fun w hI => q_load1 Tryd.isAgg50 rfl (hI.choose_spec.cell (by repeat first | exact .here _ _ | assumption | apply Pick.there) rfl)) ?_
    refine p_q hap hsel 4 rfl rfl ⟨_, ((hS.pick (A := blkA g5 25 [.int .i64 (q0 s).1, .slice At j ct, .int .i64 0, .int .i64 0, .slice none 0 0, .int .i64 0, .int .i64 0, .int .i64 0, .int .i64 0]) (by repeat first | exact .here _ _ | assumption | apply Pick.there)).pick (A := blkA g1 50 [.pointer (some ⟨g, 0, none⟩)]) (by repeat first | exact .here _ _ | assumption | apply Pick.there))⟩ (fun w hI => q_load1 Tryd.isAgg50 rfl (hI.choose_spec.cell (by repeat first | exact .here _ _ | assumption | apply Pick.there) rfl)) ?_
    refine p_one 3 rfl (by kernel_rfl) ?_
    refine t_call Tryd.call56 (rInt (s := (tkk (q1 s).2 j).2) hS (by repeat first | exact .here _ _ | assumption | apply Pick.there)) rfl ?_
    rintro e w ⟨rfl, hS⟩
    refine ⟨_, rfl, ?_⟩
    refine t_nil ?_
    refine ⟨.inr ⟨_, ((hS.pick (A := blkA g5 25 [.int .i64 (q0 s).1, .slice At j ct, .int .i64 0, .int .i64 0, .slice none 0 0, .int .i64 0, .int .i64 0, .int .i64 0, .int .i64 0]) (by repeat first | exact .here _ _ | assumption | apply Pick.there)).pick (A := blkA g1 50 [.pointer (some ⟨g, 0, none⟩)]) (by repeat first | exact .here _ _ | assumption | apply Pick.there))⟩, ?_⟩
    refine p_one 5 rfl (by kernel_rfl) ?_
    refine t_call Tryd.call56 (rInt (s := (tkk (q1 s).2 j).2.int.2) hS (by repeat first | exact .here _ _ | assumption | apply Pick.there)) rfl ?_
    rintro e w ⟨rfl, hS⟩
    refine ⟨_, rfl, ?_⟩
    refine t_nil ?_
    refine ⟨.inr ⟨_, ((hS.pick (A := blkA g5 25 [.int .i64 (q0 s).1, .slice At j ct, .int .i64 0, .int .i64 0, .slice none 0 0, .int .i64 0, .int .i64 0, .int .i64 0, .int .i64 0]) (by repeat first | exact .here _ _ | assumption | apply Pick.there)).pick (A := blkA g1 50 [.pointer (some ⟨g, 0, none⟩)]) (by repeat first | exact .here _ _ | assumption | apply Pick.there))⟩, ?_⟩
    refine p_q hap hsel 6 rfl rfl ⟨_, ((hS.pick (A := blkA g5 25 [.int .i64 (q0 s).1, .slice At j ct, .int .i64 0, .int .i64 0, .slice none 0 0, .int .i64 0, .int .i64 0, .int .i64 0, .int .i64 0]) (by repeat first | exact .here _ _ | assumption | apply Pick.there)).pick (A := blkA g1 50 [.pointer (some ⟨g, 0, none⟩)]) (by repeat first | exact .here _ _ | assumption | apply Pick.there))⟩ (fun w hI => q_build (qs := [(0, 1), (1, 1)]) [(.int _ _), (.int _ _)] Tryd.zeroValue40 Tryd.runUnderlying40 ⟨rfl, Tryd.sizeOf2, rfl, Tryd.sizeOf2, trivial⟩ rfl rfl) ?_
    refine p_one 7 rfl (by kernel_rfl) ?_
    refine t_buildSlice Tryd.runUnderlying22 Tryd.sizeOf40 Tryd.zeroValue40 rfl rfl (by intro v hv; simp at hv; try (first | (subst hv; rfl) | (rcases hv with rfl | rfl <;> rfl))) (by decide) (by decide) hS (fun g21 w hS => ?_)
    refine t_nil ?_
    refine ⟨.inr ⟨_, ((hS.pick (A := blkA g5 25 [.int .i64 (q0 s).1, .slice At j ct, .int .i64 0, .int .i64 0, .slice none 0 0, .int .i64 0, .int .i64 0, .int .i64 0, .int .i64 0]) (by repeat first | exact .here _ _ | assumption | apply Pick.there)).pick (A := blkA g1 50 [.pointer (some ⟨g, 0, none⟩)]) (by repeat first | exact .here _ _ | assumption | apply Pick.there))⟩, ?_⟩
    refine p_one 8 rfl (by kernel_rfl) ?_
    refine t_append_own (size := 2) (bytes := 16) Tryd.underlying22 (info_of Tryd.type40) rfl rfl rfl rfl (by decide) hS (by repeat first | exact .here _ _ | assumption | apply Pick.there) (by repeat first | exact .here _ _ | assumption | apply Pick.there) rfl rfl (by first | exact allOne_bv _ | exact allOne_ints _ _ | rfl) (by unfold maxLen; omega) (by omega) (fun A22 c22 w hS => ?_)
    refine t_nil ?_
    refine ⟨.inr ⟨_, ((hS.pick (A := blkA g5 25 [.int .i64 (q0 s).1, .slice At j ct, .int .i64 0, .int .i64 0, .slice none 0 0, .int .i64 0, .int .i64 0, .int .i64 0, .int .i64 0]) (by repeat first | exact .here _ _ | assumption | apply Pick.there)).pick (A := blkA g1 50 [.pointer (some ⟨g, 0, none⟩)]) (by repeat first | exact .here _ _ | assumption | apply Pick.there))⟩, ?_⟩
    refine p_q hap hsel 9 rfl rfl ⟨_, ((hS.pick (A := blkA g5 25 [.int .i64 (q0 s).1, .slice At j ct, .int .i64 0, .int .i64 0, .slice none 0 0, .int .i64 0, .int .i64 0, .int .i64 0, .int .i64 0]) (by repeat first | exact .here _ _ | assumption | apply Pick.there)).pick (A := blkA g1 50 [.pointer (some ⟨g, 0, none⟩)]) (by repeat first | exact .here _ _ | assumption | apply Pick.there))⟩ (fun w hI => q_fieldAddr 1 Tryd.runUnderlying25 rfl Tryd.sizeOf22 (by decide) rfl rfl) ?_
    refine p_one 10 rfl (by kernel_rfl) ?_
    refine t_store (v := (.slice _ _ _)) Tryd.sizeOf22 hS (by repeat first | exact .here _ _ | assumption | apply Pick.there) rfl rfl rfl rfl rfl rfl (fun w hS => ?_)
    replace hS := hS.recast (show blkA g5 25 _ = blkA g5 25 [.int .i64 (q0 s).1, .slice A22 (j + 1) c22, .int .i64 0, .int .i64 0, .slice none 0 0, .int .i64 0, .int .i64 0, .int .i64 0, .int .i64 0] from rfl)
    refine t_nil ?_
    refine ⟨.inl (by kernel_rfl), ?_⟩
    refine p_end (by kernel_rfl) ?_
    refine c_region ?_
    refine t_q (q_add_u64 rfl rfl (by omega)) ?_
    refine t_q (q_mv (.int _ _) rfl) ?_
    refine t_nil ?_
    replace hS := (hS.pick (A := rowA 40 2 A22 _ c22 _) (by repeat first | exact .here _ _ | assumption | apply Pick.there)).recast (show _ = rowA 40 2 A22 (j + 1) c22 (((tkk (q1 s).2 (j + 1)).1).flatMap Tk.cells) from by rw [tkk, List.flatMap_append]; rfl)
    replace hS := (hS.pick (A := rdrA W 93 g (tkk (q1 s).2 j).2.int.2.int.2) (by repeat first | exact .here _ _ | assumption | apply Pick.there)).recast (show _ = rdrA W 93 g (tkk (q1 s).2 (j + 1)).2 from rfl)
    exact ⟨k - 1, by omega, j + 1, A22, c22, rfl, by omega, by omega, (((((hS.pick (A := rowA 40 2 A22 _ c22 _) (by repeat first | exact .here _ _ | assumption | apply Pick.there)).pick (A := blkA g2 25 _) (by repeat first | exact .here _ _ | assumption | apply Pick.there)).pick (A := blkA g5 25 _) (by repeat first | exact .here _ _ | assumption | apply Pick.there)).pick (A := blkA g1 50 [.pointer (some ⟨g, 0, none⟩)]) (by repeat first | exact .here _ _ | assumption | apply Pick.there)).pick (A := rdrA W 93 g _) (by repeat first | exact .here _ _ | assumption | apply Pick.there))⟩
  · intro hc4
    have hc4d := of_decide_eq_false hc4
    obtain rfl : j = (q1 s).1 := by omega
    refine c_exit ?_
    refine ite_t rfl ?_
    refine c_seq ?_
    refine c_draw ?_
    refine d_keep (blkA g1 50 [.pointer (some ⟨g, 0, none⟩)]) 8 [0, 1, 2, 3, 4, 5, 6, 7] [0, 1, 2, 3, 4, 5, 6, 7] hS rfl (by kernel_rfl) (by kernel_rfl) (by kernel_rfl) (by kernel_rfl) (fun hap hsel w hS => ?_)
    refine p_q hap hsel 0 rfl rfl ⟨_, hS.pick (by repeat first | exact .here _ _ | assumption | apply Pick.there)⟩ (fun w hI => q_load1 Tryd.isAgg50 rfl (hI.choose_spec.cell (by repeat first | exact .here _ _ | assumption | apply Pick.there) rfl)) ?_
    refine p_q hap hsel 2 rfl rfl ⟨_, hS.pick (by repeat first | exact .here _ _ | assumption | apply Pick.there)⟩ (fun w hI => q_load1 Tryd.isAgg50 rfl (hI.choose_spec.cell (by repeat first | exact .here _ _ | assumption | apply Pick.there) rfl)) ?_
    refine p_one 1 rfl (by kernel_rfl) ?_
    refine t_call Tryd.call56 (rq3 (s := s) hS (by repeat first | exact .here _ _ | assumption | apply Pick.there)) rfl ?_
    rintro e w ⟨rfl, hS⟩
    refine ⟨_, rfl, ?_⟩
    refine t_nil ?_
    refine ⟨.inr ⟨_, hS.pick (by repeat first | exact .here _ _ | assumption | apply Pick.there)⟩, ?_⟩
    refine p_q hap hsel 4 rfl rfl ⟨_, hS.pick (by repeat first | exact .here _ _ | assumption | apply Pick.there)⟩ (fun w hI => q_fieldAddr 2 Tryd.runUnderlying25 rfl Tryd.sizeOf2 (by decide) rfl rfl) ?_
    refine p_one 3 rfl (by kernel_rfl) ?_
    refine t_call Tryd.call56 (rq4 (s := s) hS (by repeat first | exact .here _ _ | assumption | apply Pick.there)) rfl ?_
    rintro e w ⟨rfl, hS⟩
    refine ⟨_, rfl, ?_⟩
    refine t_nil ?_
    refine ⟨.inr ⟨_, hS.pick (by repeat first | exact .here _ _ | assumption | apply Pick.there)⟩, ?_⟩
    refine p_one 5 rfl (by kernel_rfl) ?_
    refine t_store (v := (.int _ _)) Tryd.sizeOf2 hS (by repeat first | exact .here _ _ | assumption | apply Pick.there) rfl rfl rfl rfl rfl rfl (fun w hS => ?_)
    replace hS := hS.recast (show blkA g5 25 _ = blkA g5 25 [.int .i64 (q0 s).1, .slice At (q1 s).1 ct, .int .i64 (q3 s).1, .int .i64 0, .slice none 0 0, .int .i64 0, .int .i64 0, .int .i64 0, .int .i64 0] from rfl)
    refine t_nil ?_
    refine ⟨.inr ⟨_, hS.pick (by repeat first | exact .here _ _ | assumption | apply Pick.there)⟩, ?_⟩
    refine p_q hap hsel 6 rfl rfl ⟨_, hS.pick (by repeat first | exact .here _ _ | assumption | apply Pick.there)⟩ (fun w hI => q_fieldAddr 3 Tryd.runUnderlying25 rfl Tryd.sizeOf2 (by decide) rfl rfl) ?_
    refine p_one 7 rfl (by kernel_rfl) ?_
    refine t_store (v := (.int _ _)) Tryd.sizeOf2 hS (by repeat first | exact .here _ _ | assumption | apply Pick.there) rfl rfl rfl rfl rfl rfl (fun w hS => ?_)
    replace hS := hS.recast (show blkA g5 25 _ = blkA g5 25 [.int .i64 (q0 s).1, .slice At (q1 s).1 ct, .int .i64 (q3 s).1, .int .i64 (q4 s).1, .slice none 0 0, .int .i64 0, .int .i64 0, .int .i64 0, .int .i64 0] from rfl)
    refine t_nil ?_
    refine ⟨.inl (by kernel_rfl), ?_⟩
    refine p_end (by kernel_rfl) ?_
    refine c_seq ?_
    refine c_seq ?_
    refine c_region ?_
    refine t_q (q_load1 Tryd.isAgg50 rfl (hS.cell (by repeat first | exact .here _ _ | assumption | apply Pick.there) rfl)) ?_
    refine t_call Tryd.call57 (rq5 (s := s) hS (by repeat first | exact .here _ _ | assumption | apply Pick.there)) rfl ?_
    rintro e w ⟨rfl, hS⟩
    refine ⟨_, rfl, ?_⟩
    refine t_q (q_move) ?_
    refine t_nil ?_
    refine c_block ?_
    refine c_loop [33, 34, 35, 36, 37, 38, 39, 40, 41, 42, 43, 44, 45, 46, 47] (fun k σ w => ∃ (j : Nat) (Af : Option Addr) (cf : Nat), σ 33 = .int .u64 (j : Int) ∧ j ≤ (q5 s).1 ∧ (q5 s).1 - j ≤ k ∧ St W w (rdrA W 93 g (trk (q5 s).2 j).2 :: blkA g1 50 [.pointer (some ⟨g, 0, none⟩)] :: blkA g5 25 [.int .i64 (q0 s).1, .slice At (q1 s).1 ct, .int .i64 (q3 s).1, .int .i64 (q4 s).1, .slice Af j cf, .int .i64 0, .int .i64 0, .int .i64 0, .int .i64 0] :: blkA g2 25 [.int .i64 0, .slice none 0 0, .int .i64 0, .int .i64 0, .slice none 0 0, .int .i64 0, .int .i64 0, .int .i64 0, .int .i64 0] :: rowA 40 2 At (q1 s).1 ct (((q2 s).1).flatMap Tk.cells) :: rowA 42 3 Af j cf (((trk (q5 s).2 j).1).flatMap Tr.cells) :: R)) ((q5 s).1) rfl (⟨0, none, 0, rfl, by omega, by omega, (((((((hS.nilrow 42 3).pick (A := rowA 42 3 none 0 0 []) (by repeat first | exact .here _ _ | assumption | apply Pick.there)).pick (A := rowA 40 2 At _ ct _) (by repeat first | exact .here _ _ | assumption | apply Pick.there)).pick (A := blkA g2 25 _) (by repeat first | exact .here _ _ | assumption | apply Pick.there)).pick (A := blkA g5 25 _) (by repeat first | exact .here _ _ | assumption | apply Pick.there)).pick (A := blkA g1 50 [.pointer (some ⟨g, 0, none⟩)]) (by repeat first | exact .here _ _ | assumption | apply Pick.there)).pick (A := rdrA W 93 g _) (by repeat first | exact .here _ _ | assumption | apply Pick.there))⟩) ?_
    skip
    rintro k σ w ⟨j, Af, cf, h33, hj, hk, hS⟩
    refine c_know 33 h33 ?_
    clear h33
    refine c_seq ?_
    refine c_region ?_
    refine t_q (q_lss rfl rfl) ?_
    refine t_nil ?_
    refine c_seq ?_
    refine c_cond rfl ?_ ?_
    · intro hc11
      have hc11d := of_decide_eq_true hc11
      refine c_skip ?_
      refine c_seq ?_
      refine c_block ?_
      refine c_draw ?_
      refine d_keep2 (blkA g1 50 [.pointer (some ⟨g, 0, none⟩)]) (blkA g5 25 [.int .i64 (q0 s).1, .slice At (q1 s).1 ct, .int .i64 (q3 s).1, .int .i64 (q4 s).1, .slice Af j cf, .int .i64 0, .int .i64 0, .int .i64 0, .int .i64 0]) 13 [0, 1, 2, 3, 4, 5, 6, 7, 8, 9, 10, 11, 12] [0, 1, 2, 3, 4, 5, 6, 7, 8, 9, 10, 11, 12] hS rfl (by kernel_rfl) (by kernel_rfl) (by kernel_rfl) (by kernel_rfl) (fun hap hsel w hS => ?_)
      refine p_q hap hsel 0 rfl rfl ⟨_, ((hS.pick (A := blkA g5 25 [.int .i64 (q0 s).1, .slice At (q1 s).1 ct, .int .i64 (q3 s).1, .int .i64 (q4 s).1, .slice Af j cf, .int .i64 0, .int .i64 0, .int .i64 0, .int .i64 0]) (by repeat first | exact .here _ _ | assumption | apply Pick.there)).pick (A := blkA g1 50 [.pointer (some ⟨g, 0, none⟩)]) (by repeat first | exact .here _ _ | assumption | apply Pick.there))⟩ (fun w hI => q_fieldAddr 4 Tryd.runUnderlying25 rfl Tryd.sizeOf23 (by decide) rfl rfl) ?_
      refine p_q hap hsel 1 rfl rfl ⟨_, ((hS.pick (A := blkA g5 25 [.int .i64 (q0 s).1, .slice At (q1 s).1 ct, .int .i64 (q3 s).1, .int .i64 (q4 s).1, .slice Af j cf, .int .i64 0, .int .i64 0, .int .i64 0, .int .i64 0]) (by repeat first | exact .here _ _ | assumption | apply Pick.there)).pick (A := blkA g1 50 [.pointer (some ⟨g, 0, none⟩)]) (by repeat first | exact .here _ _ | assumption | apply Pick.there))⟩ (fun w hI => q_load1 Tryd.isAgg23 rfl (hI.choose_spec.cell (by repeat first | exact .here _ _ | assumption | apply Pick.there) rfl)) ?_
      refine p_q hap hsel 2 rfl rfl ⟨_, ((hS.pick (A := blkA g5 25 [.int .i64 (q0 s).1, .slice At (q1 s).1 ct, .int .i64 (q3 s).1, .int .i64 (q4 s).1, .slice Af j cf, .int .i64 0, .int .i64 0, .int .i64 0, .int .i64 0]) (by repeat first | exact .here _ _ | assumption | apply Pick.there)).pick (A := blkA g1 50 [.pointer (some ⟨g, 0, none⟩)]) (by repeat first | exact .here _ _ | assumption | apply Pick.there))⟩ (fun w hI => q_load1 Tryd.isAgg50 rfl (hI.choose_spec.cell (by repeat first | exact .here _ _ | assumption | apply Pick.there) rfl)) ?_
      refine p_q hap hsel 4 rfl rfl ⟨_, ((hS.pick (A := blkA g5 25 [.int .i64 (q0 s).1, .slice At (q1 s).1 ct, .int .i64 (q3 s).1, .int .i64 (q4 s).1, .slice Af j cf, .int .i64 0, .int .i64 0, .int .i64 0, .int .i64 0]) (by repeat first | exact .here _ _ | assumption | apply Pick.there)).pick (A := blkA g1 50 [.pointer (some ⟨g, 0, none⟩)]) (by repeat first | exact .here _ _ | assumption | apply Pick.there))⟩ (fun w hI => q_load1 Tryd.isAgg50 rfl (hI.choose_spec.cell (by repeat first | exact .here _ _ | assumption | apply Pick.there) rfl)) ?_
      refine p_q hap hsel 6 rfl rfl ⟨_, ((hS.pick (A := blkA g5 25 [.int .i64 (q0 s).1, .slice At (q1 s).1 ct, .int .i64 (q3 s).1, .int .i64 (q4 s).1, .slice Af j cf, .int .i64 0, .int .i64 0, .int .i64 0, .int .i64 0]) (by repeat first | exact .here _ _ | assumption | apply Pick.there)).pick (A := blkA g1 50 [.pointer (some ⟨g, 0, none⟩)]) (by repeat first | exact .here _ _ | assumption | apply Pick.there))⟩ (fun w hI => q_load1 Tryd.isAgg50 rfl (hI.choose_spec.cell (by repeat first | exact .here _ _ | assumption | apply Pick.there) rfl)) ?_
      refine p_one 3 rfl (by kernel_rfl) ?_
      refine t_call Tryd.call56 (rInt (s := (trk (q5 s).2 j).2) hS (by repeat first | exact .here _ _ | assumption | apply Pick.there)) rfl ?_
      rintro e w ⟨rfl, hS⟩
      refine ⟨_, rfl, ?_⟩
      refine t_nil ?_
      refine ⟨.inr ⟨_, ((hS.pick (A := blkA g5 25 [.int .i64 (q0 s).1, .slice At (q1 s).1 ct, .int .i64 (q3 s).1, .int .i64 (q4 s).1, .slice Af j cf, .int .i64 0, .int .i64 0, .int .i64 0, .int .i64 0]) (by repeat first | exact .here _ _ | assumption | apply Pick.there)).pick (A := blkA g1 50 [.pointer (some ⟨g, 0, none⟩)]) (by repeat first | exact .here _ _ | assumption | apply Pick.there))⟩, ?_⟩
      refine p_one 5 rfl (by kernel_rfl) ?_
      refine t_call Tryd.call56 (rInt (s := (trk (q5 s).2 j).2.int.2) hS (by repeat first | exact .here _ _ | assumption | apply Pick.there)) rfl ?_
      rintro e w ⟨rfl, hS⟩
      refine ⟨_, rfl, ?_⟩
      refine t_nil ?_
      refine ⟨.inr ⟨_, ((hS.pick (A := blkA g5 25 [.int .i64 (q0 s).1, .slice At (q1 s).1 ct, .int .i64 (q3 s).1, .int .i64 (q4 s).1, .slice Af j cf, .int .i64 0, .int .i64 0, .int .i64 0, .int .i64 0]) (by repeat first | exact .here _ _ | assumption | apply Pick.there)).pick (A := blkA g1 50 [.pointer (some ⟨g, 0, none⟩)]) (by repeat first | exact .here _ _ | assumption | apply Pick.there))⟩, ?_⟩
      refine p_one 7 rfl (by kernel_rfl) ?_
      refine t_call Tryd.call56 (rInt (s := (trk (q5 s).2 j).2.int.2.int.2) hS (by repeat first | exact .here _ _ | assumption | apply Pick.there)) rfl ?_
      rintro e w ⟨rfl, hS⟩
      refine ⟨_, rfl, ?_⟩
      refine t_nil ?_
      refine ⟨.inr ⟨_, ((hS.pick (A := blkA g5 25 [.int .i64 (q0 s).1, .slice At (q1 s).1 ct, .int .i64 (q3 s).1, .int .i64 (q4 s).1, .slice Af j cf, .int .i64 0, .int .i64 0, .int .i64 0, .int .i64 0]) (by repeat first | exact .here _ _ | assumption | apply Pick.there)).pick (A := blkA g1 50 [.pointer (some ⟨g, 0, none⟩)]) (by repeat first | exact .here _ _ | assumption | apply Pick.there))⟩, ?_⟩
      refine p_q hap hsel 8 rfl rfl ⟨_, ((hS.pick (A := blkA g5 25 [.int .i64 (q0 s).1, .slice At (q1 s).1 ct, .int .i64 (q3 s).1, .int .i64 (q4 s).1, .slice Af j cf, .int .i64 0, .int .i64 0, .int .i64 0, .int .i64 0]) (by repeat first | exact .here _ _ | assumption | apply Pick.there)).pick (A := blkA g1 50 [.pointer (some ⟨g, 0, none⟩)]) (by repeat first | exact .here _ _ | assumption | apply Pick.there))⟩ (fun w hI => q_build (qs := [(0, 1), (1, 1), (2, 1)]) [(.int _ _), (.int _ _), (.int _ _)] Tryd.zeroValue42 Tryd.runUnderlying42 ⟨rfl, Tryd.sizeOf2, rfl, Tryd.sizeOf2, rfl, Tryd.sizeOf2, trivial⟩ rfl rfl) ?_
      refine p_one 9 rfl (by kernel_rfl) ?_
      refine t_buildSlice Tryd.runUnderlying23 Tryd.sizeOf42 Tryd.zeroValue42 rfl rfl (by intro v hv; simp at hv; try (first | (subst hv; rfl) | (rcases hv with rfl | rfl <;> rfl))) (by decide) (by decide) hS (fun g44 w hS => ?_)
      refine t_nil ?_
      refine ⟨.inr ⟨_, ((hS.pick (A := blkA g5 25 [.int .i64 (q0 s).1, .slice At (q1 s).1 ct, .int .i64 (q3 s).1, .int .i64 (q4 s).1, .slice Af j cf, .int .i64 0, .int .i64 0, .int .i64 0, .int .i64 0]) (by repeat first | exact .here _ _ | assumption | apply Pick.there)).pick (A := blkA g1 50 [.pointer (some ⟨g, 0, none⟩)]) (by repeat first | exact .here _ _ | assumption | apply Pick.there))⟩, ?_⟩
      refine p_one 10 rfl (by kernel_rfl) ?_
      refine t_append_own (size := 3) (bytes := 24) Tryd.underlying23 (info_of Tryd.type42) rfl rfl rfl rfl (by decide) hS (by repeat first | exact .here _ _ | assumption | apply Pick.there) (by repeat first | exact .here _ _ | assumption | apply Pick.there) rfl rfl (by first | exact allOne_bv _ | exact allOne_ints _ _ | rfl) (by unfold maxLen; omega) (by omega) (fun A45 c45 w hS => ?_)
      refine t_nil ?_
      refine ⟨.inr ⟨_, ((hS.pick (A := blkA g5 25 [.int .i64 (q0 s).1, .slice At (q1 s).1 ct, .int .i64 (q3 s).1, .int .i64 (q4 s).1, .slice Af j cf, .int .i64 0, .int .i64 0, .int .i64 0, .int .i64 0]) (by repeat first | exact .here _ _ | assumption | apply Pick.there)).pick (A := blkA g1 50 [.pointer (some ⟨g, 0, none⟩)]) (by repeat first | exact .here _ _ | assumption | apply Pick.there))⟩, ?_⟩
      refine p_q hap hsel 11 rfl rfl ⟨_, ((hS.pick (A := blkA g5 25 [.int .i64 (q0 s).1, .slice At (q1 s).1 ct, .int .i64 (q3 s).1, .int .i64 (q4 s).1, .slice Af j cf, .int .i64 0, .int .i64 0, .int .i64 0, .int .i64 0]) (by repeat first | exact .here _ _ | assumption | apply Pick.there)).pick (A := blkA g1 50 [.pointer (some ⟨g, 0, none⟩)]) (by repeat first | exact .here _ _ | assumption | apply Pick.there))⟩ (fun w hI => q_fieldAddr 4 Tryd.runUnderlying25 rfl Tryd.sizeOf23 (by decide) rfl rfl) ?_
      refine p_one 12 rfl (by kernel_rfl) ?_
      refine t_store (v := (.slice _ _ _)) Tryd.sizeOf23 hS (by repeat first | exact .here _ _ | assumption | apply Pick.there) rfl rfl rfl rfl rfl rfl (fun w hS => ?_)
      replace hS := hS.recast (show blkA g5 25 _ = blkA g5 25 [.int .i64 (q0 s).1, .slice At (q1 s).1 ct, .int .i64 (q3 s).1, .int .i64 (q4 s).1, .slice A45 (j + 1) c45, .int .i64 0, .int .i64 0, .int .i64 0, .int .i64 0] from rfl)
      refine t_nil ?_
      refine ⟨.inl (by kernel_rfl), ?_⟩
      refine p_end (by kernel_rfl) ?_
      refine c_region ?_
      refine t_q (q_add_u64 rfl rfl (by omega)) ?_
      refine t_q (q_mv (.int _ _) rfl) ?_
      refine t_nil ?_
      replace hS := (hS.pick (A := rowA 42 3 A45 _ c45 _) (by repeat first | exact .here _ _ | assumption | apply Pick.there)).recast (show _ = rowA 42 3 A45 (j + 1) c45 (((trk (q5 s).2 (j + 1)).1).flatMap Tr.cells) from by rw [trk, List.flatMap_append]; rfl)
      replace hS := (hS.pick (A := rdrA W 93 g (trk (q5 s).2 j).2.int.2.int.2.int.2) (by repeat first | exact .here _ _ | assumption | apply Pick.there)).recast (show _ = rdrA W 93 g (trk (q5 s).2 (j + 1)).2 from rfl)
      exact ⟨k - 1, by omega, j + 1, A45, c45, rfl, by omega, by omega, ((((((hS.pick (A := rowA 42 3 A45 _ c45 _) (by repeat first | exact .here _ _ | assumption | apply Pick.there)).pick (A := rowA 40 2 At _ ct _) (by repeat first | exact .here _ _ | assumption | apply Pick.there)).pick (A := blkA g2 25 _) (by repeat first | exact .here _ _ | assumption | apply Pick.there)).pick (A := blkA g5 25 _) (by repeat first | exact .here _ _ | assumption | apply Pick.there)).pick (A := blkA g1 50 [.pointer (some ⟨g, 0, none⟩)]) (by repeat first | exact .here _ _ | assumption | apply Pick.there)).pick (A := rdrA W 93 g _) (by repeat first | exact .here _ _ | assumption | apply Pick.there))⟩
    · intro hc11
      have hc11d := of_decide_eq_false hc11
      obtain rfl : j = (q5 s).1 := by omega
      replace hS := (hS.pick (A := rowA 42 3 Af _ cf _) (by repeat first | exact .here _ _ | assumption | apply Pick.there)).recast (show _ = rowA 42 3 Af (q5 s).1 cf (((q6 s).1).flatMap Tr.cells) from rfl)
      refine c_exit ?_
      refine ite_t rfl ?_
      refine c_seq ?_
      refine c_region ?_
      refine t_q (q_mv (.func _ _ _) rfl) ?_
      refine t_callv Tryd.call55 rfl (rc7 (s := s) ((hS.pick (A := blkA g1 50 [.pointer (some ⟨g, 0, none⟩)]) (by repeat first | exact .here _ _ | assumption | apply Pick.there)).pick (A := rdrA W 93 g _) (by repeat first | exact .here _ _ | assumption | apply Pick.there))) rfl ?_
      rintro e w ⟨rfl, hS⟩
      refine ⟨_, rfl, ?_⟩
      refine t_q (q_mv (.func _ _ _) rfl) ?_
      refine t_callv Tryd.call55 rfl (rc8 (s := s) ((hS.pick (A := blkA g1 50 [.pointer (some ⟨g, 0, none⟩)]) (by repeat first | exact .here _ _ | assumption | apply Pick.there)).pick (A := rdrA W 93 g _) (by repeat first | exact .here _ _ | assumption | apply Pick.there))) rfl ?_
      rintro e w ⟨rfl, hS⟩
      refine ⟨_, rfl, ?_⟩
      refine t_q (q_mv (.func _ _ _) rfl) ?_
      refine t_callv Tryd.call55 rfl (rc9 (s := s) ((hS.pick (A := blkA g1 50 [.pointer (some ⟨g, 0, none⟩)]) (by repeat first | exact .here _ _ | assumption | apply Pick.there)).pick (A := rdrA W 93 g _) (by repeat first | exact .here _ _ | assumption | apply Pick.there))) rfl ?_
      rintro e w ⟨rfl, hS⟩
      refine ⟨_, rfl, ?_⟩
      refine t_q (q_mv (.func _ _ _) rfl) ?_
      refine t_callv Tryd.call55 rfl (rc10 (s := s) ((hS.pick (A := blkA g1 50 [.pointer (some ⟨g, 0, none⟩)]) (by repeat first | exact .here _ _ | assumption | apply Pick.there)).pick (A := rdrA W 93 g _) (by repeat first | exact .here _ _ | assumption | apply Pick.there))) rfl ?_
      rintro e w ⟨rfl, hS⟩
      refine ⟨_, rfl, ?_⟩
      refine t_q (q_fieldAddr 5 Tryd.runUnderlying25 rfl Tryd.sizeOf3 (by decide) rfl rfl) ?_
      refine t_store (v := (.int _ _)) Tryd.sizeOf3 hS (by repeat first | exact .here _ _ | assumption | apply Pick.there) rfl rfl rfl rfl rfl rfl (fun w hS => ?_)
      replace hS := hS.recast (show blkA g5 25 _ = blkA g5 25 [.int .i64 (q0 s).1, .slice At (q1 s).1 ct, .int .i64 (q3 s).1, .int .i64 (q4 s).1, .slice Af (q5 s).1 cf, .int .i64 (q7 s).1, .int .i64 0, .int .i64 0, .int .i64 0] from rfl)
      refine t_q (q_fieldAddr 6 Tryd.runUnderlying25 rfl Tryd.sizeOf3 (by decide) rfl rfl) ?_
      refine t_store (v := (.int _ _)) Tryd.sizeOf3 hS (by repeat first | exact .here _ _ | assumption | apply Pick.there) rfl rfl rfl rfl rfl rfl (fun w hS => ?_)
      replace hS := hS.recast (show blkA g5 25 _ = blkA g5 25 [.int .i64 (q0 s).1, .slice At (q1 s).1 ct, .int .i64 (q3 s).1, .int .i64 (q4 s).1, .slice Af (q5 s).1 cf, .int .i64 (q7 s).1, .int .i64 (q8 s).1, .int .i64 0, .int .i64 0] from rfl)
      refine t_q (q_fieldAddr 7 Tryd.runUnderlying25 rfl Tryd.sizeOf3 (by decide) rfl rfl) ?_
      refine t_store (v := (.int _ _)) Tryd.sizeOf3 hS (by repeat first | exact .here _ _ | assumption | apply Pick.there) rfl rfl rfl rfl rfl rfl (fun w hS => ?_)
      replace hS := hS.recast (show blkA g5 25 _ = blkA g5 25 [.int .i64 (q0 s).1, .slice At (q1 s).1 ct, .int .i64 (q3 s).1, .int .i64 (q4 s).1, .slice Af (q5 s).1 cf, .int .i64 (q7 s).1, .int .i64 (q8 s).1, .int .i64 (q9 s).1, .int .i64 0] from rfl)
      refine t_q (q_fieldAddr 8 Tryd.runUnderlying25 rfl Tryd.sizeOf3 (by decide) rfl rfl) ?_
      refine t_store (v := (.int _ _)) Tryd.sizeOf3 hS (by repeat first | exact .here _ _ | assumption | apply Pick.there) rfl rfl rfl rfl rfl rfl (fun w hS => ?_)
      replace hS := hS.recast (show blkA g5 25 _ = blkA g5 25 [.int .i64 (q0 s).1, .slice At (q1 s).1 ct, .int .i64 (q3 s).1, .int .i64 (q4 s).1, .slice Af (q5 s).1 cf, .int .i64 (q7 s).1, .int .i64 (q8 s).1, .int .i64 (q9 s).1, .int .i64 (q10 s).1] from rfl)
      refine t_nil ?_
      refine c_seq ?_
      refine c_seq ?_
      refine c_region ?_
      refine t_q (q_load1 Tryd.isAgg50 rfl (hS.cell (by repeat first | exact .here _ _ | assumption | apply Pick.there) rfl)) ?_
      refine t_call Tryd.call25 (rBad hS (by repeat first | exact .here _ _ | assumption | apply Pick.there)) rfl ?_
      rintro e w ⟨rfl, hS⟩
      refine ⟨_, rfl, ?_⟩
      refine t_q (q_mv (.bool _) rfl) ?_
      refine t_case 62 rfl ?_ ?_
      · intro hg20
        refine t_no rfl rfl (by rw [hg20]; decide) ?_
        refine t_no rfl rfl (by rw [hg20]; decide) ?_
        refine t_no rfl rfl (by rw [hg20]; decide) ?_
        refine t_q (q_pick_t rfl hg20) ?_
        refine t_nil ?_
        refine c_cond_t rfl rfl ?_
        have hD : ruOk s = false := by
          first
            | exact ruOk_bad (by assumption)
            | exact ruOk_not (A := At) (c := ct) (B := Af) (d := cf) (by rw [← hnil]; exact bnt (by assumption))
        obtain ⟨t1, t2⟩ := ruT_no (A := none) (c := 0) (B := none) (d := 0) hD
        refine c_seq ?_
        refine c_region ?_
        refine t_q (q_load1 Tryd.isAgg50 rfl (hS.cell (by repeat first | exact .here _ _ | assumption | apply Pick.there) rfl)) ?_
        refine t_call Tryd.call58 (rFail hS (by repeat first | exact .here _ _ | assumption | apply Pick.there)) rfl ?_
        rintro e w ⟨rfl, hS⟩
        refine ⟨_, rfl, ?_⟩
        replace hS := hS.recast (show _ = rdrA W 93 g s.fail from rfl)
        refine t_nil ?_
        refine c_seq ?_
        refine c_region ?_
        refine t_q (q_build (qs := [(0, 1), (1, 1), (2, 1), (3, 1), (4, 1), (5, 1), (6, 1), (7, 1), (8, 1)]) [(.int _ _), (.slice _ _ _), (.int _ _), (.int _ _), (.slice _ _ _), (.int _ _), (.int _ _), (.int _ _), (.int _ _)] Tryd.zeroValue25 Tryd.runUnderlying25 ⟨rfl, Tryd.sizeOf3, rfl, Tryd.sizeOf22, rfl, Tryd.sizeOf2, rfl, Tryd.sizeOf2, rfl, Tryd.sizeOf23, rfl, Tryd.sizeOf3, rfl, Tryd.sizeOf3, rfl, Tryd.sizeOf3, rfl, Tryd.sizeOf3, trivial⟩ rfl rfl) ?_
        refine t_store (v := (.agg _)) Tryd.sizeOf25 hS (by repeat first | exact .here _ _ | assumption | apply Pick.there) rfl rfl rfl rfl rfl rfl (fun w hS => ?_)
        refine t_q (q_assign) ?_
        refine t_nil ?_
        refine c_ret ?_
        refine r_two rfl (res1_cellN Tryd.isAgg25 Tryd.sizeOf25 rfl (hS.blk (by repeat first | exact .here _ _ | assumption | apply Pick.there)) rfl) rfl ?_
        rw [hD, t2]
        first
          | exact ⟨ruZ, rfl, ⟨none, 0, none, 0, t1.symm⟩, ((((((((((hS.pick (A := blkA g2 25 _) (by repeat first | exact .here _ _ | assumption | apply Pick.there)).drop.pick (A := blkA g5 25 _) (by repeat first | exact .here _ _ | assumption | apply Pick.there)).drop.pick (A := blkA g1 50 [.pointer (some ⟨g, 0, none⟩)]) (by repeat first | exact .here _ _ | assumption | apply Pick.there)).drop.pick (A := rowA 40 2 At _ ct _) (by repeat first | exact .here _ _ | assumption | apply Pick.there)).drop.pick (A := rowA 42 3 Af _ cf _) (by repeat first | exact .here _ _ | assumption | apply Pick.there)).drop.nilrow 40 2).nilrow 42 3).pick (A := rowA 42 3 none 0 0 []) (by repeat first | exact .here _ _ | assumption | apply Pick.there)).pick (A := rowA 40 2 none 0 0 []) (by repeat first | exact .here _ _ | assumption | apply Pick.there)).pick (A := rdrA W 93 g s.fail) (by repeat first | exact .here _ _ | assumption | apply Pick.there))⟩
          | refine ⟨(ruV s At ct Af cf), ?_, ⟨At, ct, Af, cf, t1.symm⟩, ?_⟩
            · show Ending.returned (.tuple #[.agg _, .bool true]) = .returned (.tuple #[.agg (ruV s At ct Af cf).cells.toArray, .bool true])
              rw [show (ruV s At ct Af cf).cells = [.int .i64 (q0 s).1, .slice At (q2 s).1.length ct, .int .i64 (q3 s).1, .int .i64 (q4 s).1, .slice Af (q6 s).1.length cf, .int .i64 (q7 s).1, .int .i64 (q8 s).1, .int .i64 (q9 s).1, .int .i64 (q10 s).1] from rfl, hl2, hl6]
              try rfl
            · have h9 := ((((((hS.pick (A := blkA g2 25 _) (by repeat first | exact .here _ _ | assumption | apply Pick.there)).drop.pick (A := blkA g5 25 _) (by repeat first | exact .here _ _ | assumption | apply Pick.there)).drop.pick (A := blkA g1 50 [.pointer (some ⟨g, 0, none⟩)]) (by repeat first | exact .here _ _ | assumption | apply Pick.there)).drop.pick (A := rowA 42 3 Af _ cf _) (by repeat first | exact .here _ _ | assumption | apply Pick.there)).pick (A := rowA 40 2 At _ ct _) (by repeat first | exact .here _ _ | assumption | apply Pick.there)).pick (A := rdrA W 93 g (q10 s).2) (by repeat first | exact .here _ _ | assumption | apply Pick.there))
              rw [← hl2, ← hl6] at h9
              exact h9
      · intro hg20
        refine t_yes rfl rfl hg20 ?_
        refine t_q (q_cast (v' := .agg (ruV s At ct Af cf).cells.toArray) (q_load_blk Tryd.isAgg25 Tryd.sizeOf25 rfl (hS.blk (by repeat first | exact .here _ _ | assumption | apply Pick.there)) rfl) (by rw [show (ruV s At ct Af cf).cells = [.int .i64 (q0 s).1, .slice At (q2 s).1.length ct, .int .i64 (q3 s).1, .int .i64 (q4 s).1, .slice Af (q6 s).1.length cf, .int .i64 (q7 s).1, .int .i64 (q8 s).1, .int .i64 (q9 s).1, .int .i64 (q10 s).1] from rfl, hl2, hl6]; try rfl)) ?_
        refine t_yes rfl rfl hg20 ?_
        refine t_call Tryd.call12 (rcheck_calls (ruV_gd (A := At) (c := ct) (B := Af) (d := cf) (rowRdTk hS (A := At) (c := ct) (l := (q2 s).1) (by repeat first | exact .here _ _ | assumption | apply Pick.there) hl2.symm) (rowRdTr hS (A := Af) (c := cf) (l := (q6 s).1) (by repeat first | exact .here _ _ | assumption | apply Pick.there) hl6.symm))) rfl ?_
        rintro e w ⟨v, rfl, hIf, hnil, hT⟩
        refine ⟨_, rfl, ?_⟩
        replace hS := hS.after hT
        refine t_yes rfl rfl hg20 ?_
        refine t_q (q_neq_iface_nil Tryd.runUnderlying32 rfl (hIf)) ?_
        refine t_q (q_pick_f rfl hg20) ?_
        refine t_nil ?_
        refine c_cond rfl ?_ ?_
        · intro hc24
          have hD : ruOk s = false := by
            first
              | exact ruOk_bad (by assumption)
              | exact ruOk_not (A := At) (c := ct) (B := Af) (d := cf) (by rw [← hnil]; exact bnt (by assumption))
          obtain ⟨t1, t2⟩ := ruT_no (A := none) (c := 0) (B := none) (d := 0) hD
          refine c_seq ?_
          refine c_region ?_
          refine t_q (q_load1 Tryd.isAgg50 rfl (hS.cell (by repeat first | exact .here _ _ | assumption | apply Pick.there) rfl)) ?_
          refine t_call Tryd.call58 (rFail hS (by repeat first | exact .here _ _ | assumption | apply Pick.there)) rfl ?_
          rintro e w ⟨rfl, hS⟩
          refine ⟨_, rfl, ?_⟩
          replace hS := hS.recast (show _ = rdrA W 93 g s.fail from rfl)
          refine t_nil ?_
          refine c_seq ?_
          refine c_region ?_
          refine t_q (q_build (qs := [(0, 1), (1, 1), (2, 1), (3, 1), (4, 1), (5, 1), (6, 1), (7, 1), (8, 1)]) [(.int _ _), (.slice _ _ _), (.int _ _), (.int _ _), (.slice _ _ _), (.int _ _), (.int _ _), (.int _ _), (.int _ _)] Tryd.zeroValue25 Tryd.runUnderlying25 ⟨rfl, Tryd.sizeOf3, rfl, Tryd.sizeOf22, rfl, Tryd.sizeOf2, rfl, Tryd.sizeOf2, rfl, Tryd.sizeOf23, rfl, Tryd.sizeOf3, rfl, Tryd.sizeOf3, rfl, Tryd.sizeOf3, rfl, Tryd.sizeOf3, trivial⟩ rfl rfl) ?_
          refine t_store (v := (.agg _)) Tryd.sizeOf25 hS (by repeat first | exact .here _ _ | assumption | apply Pick.there) rfl rfl rfl rfl rfl rfl (fun w hS => ?_)
          refine t_q (q_assign) ?_
          refine t_nil ?_
          refine c_ret ?_
          refine r_two rfl (res1_cellN Tryd.isAgg25 Tryd.sizeOf25 rfl (hS.blk (by repeat first | exact .here _ _ | assumption | apply Pick.there)) rfl) rfl ?_
          rw [hD, t2]
          first
            | exact ⟨ruZ, rfl, ⟨none, 0, none, 0, t1.symm⟩, ((((((((((hS.pick (A := blkA g2 25 _) (by repeat first | exact .here _ _ | assumption | apply Pick.there)).drop.pick (A := blkA g5 25 _) (by repeat first | exact .here _ _ | assumption | apply Pick.there)).drop.pick (A := blkA g1 50 [.pointer (some ⟨g, 0, none⟩)]) (by repeat first | exact .here _ _ | assumption | apply Pick.there)).drop.pick (A := rowA 40 2 At _ ct _) (by repeat first | exact .here _ _ | assumption | apply Pick.there)).drop.pick (A := rowA 42 3 Af _ cf _) (by repeat first | exact .here _ _ | assumption | apply Pick.there)).drop.nilrow 40 2).nilrow 42 3).pick (A := rowA 42 3 none 0 0 []) (by repeat first | exact .here _ _ | assumption | apply Pick.there)).pick (A := rowA 40 2 none 0 0 []) (by repeat first | exact .here _ _ | assumption | apply Pick.there)).pick (A := rdrA W 93 g s.fail) (by repeat first | exact .here _ _ | assumption | apply Pick.there))⟩
            | refine ⟨(ruV s At ct Af cf), ?_, ⟨At, ct, Af, cf, t1.symm⟩, ?_⟩
              · show Ending.returned (.tuple #[.agg _, .bool true]) = .returned (.tuple #[.agg (ruV s At ct Af cf).cells.toArray, .bool true])
                rw [show (ruV s At ct Af cf).cells = [.int .i64 (q0 s).1, .slice At (q2 s).1.length ct, .int .i64 (q3 s).1, .int .i64 (q4 s).1, .slice Af (q6 s).1.length cf, .int .i64 (q7 s).1, .int .i64 (q8 s).1, .int .i64 (q9 s).1, .int .i64 (q10 s).1] from rfl, hl2, hl6]
                try rfl
              · have h9 := ((((((hS.pick (A := blkA g2 25 _) (by repeat first | exact .here _ _ | assumption | apply Pick.there)).drop.pick (A := blkA g5 25 _) (by repeat first | exact .here _ _ | assumption | apply Pick.there)).drop.pick (A := blkA g1 50 [.pointer (some ⟨g, 0, none⟩)]) (by repeat first | exact .here _ _ | assumption | apply Pick.there)).drop.pick (A := rowA 42 3 Af _ cf _) (by repeat first | exact .here _ _ | assumption | apply Pick.there)).pick (A := rowA 40 2 At _ ct _) (by repeat first | exact .here _ _ | assumption | apply Pick.there)).pick (A := rdrA W 93 g (q10 s).2) (by repeat first | exact .here _ _ | assumption | apply Pick.there))
                rw [← hl2, ← hl6] at h9
                exact h9
        · intro hc24
          have hD : ruOk s = true := ruOk_yes (A := At) (c := ct) (B := Af) (d := cf) (by assumption) (by rw [← hnil]; exact bnf (by assumption))
          obtain ⟨t1, t2⟩ := ruT_yes (A := At) (c := ct) (B := Af) (d := cf) hD
          refine c_skip ?_
          refine c_seq ?_
          refine c_region ?_
          refine t_q (q_load_blk Tryd.isAgg25 Tryd.sizeOf25 rfl (hS.blk (by repeat first | exact .here _ _ | assumption | apply Pick.there)) rfl) ?_
          refine t_store (v := (.agg _)) Tryd.sizeOf25 hS (by repeat first | exact .here _ _ | assumption | apply Pick.there) rfl rfl rfl rfl rfl rfl (fun w hS => ?_)
          refine t_q (q_assign) ?_
          refine t_nil ?_
          refine c_ret ?_
          refine r_two rfl (res1_cellN Tryd.isAgg25 Tryd.sizeOf25 rfl (hS.blk (by repeat first | exact .here _ _ | assumption | apply Pick.there)) rfl) rfl ?_
          rw [hD, t2]
          first
            | exact ⟨ruZ, rfl, ⟨none, 0, none, 0, t1.symm⟩, ((((((((((hS.pick (A := blkA g2 25 _) (by repeat first | exact .here _ _ | assumption | apply Pick.there)).drop.pick (A := blkA g5 25 _) (by repeat first | exact .here _ _ | assumption | apply Pick.there)).drop.pick (A := blkA g1 50 [.pointer (some ⟨g, 0, none⟩)]) (by repeat first | exact .here _ _ | assumption | apply Pick.there)).drop.pick (A := rowA 40 2 At _ ct _) (by repeat first | exact .here _ _ | assumption | apply Pick.there)).drop.pick (A := rowA 42 3 Af _ cf _) (by repeat first | exact .here _ _ | assumption | apply Pick.there)).drop.nilrow 40 2).nilrow 42 3).pick (A := rowA 42 3 none 0 0 []) (by repeat first | exact .here _ _ | assumption | apply Pick.there)).pick (A := rowA 40 2 none 0 0 []) (by repeat first | exact .here _ _ | assumption | apply Pick.there)).pick (A := rdrA W 93 g s.fail) (by repeat first | exact .here _ _ | assumption | apply Pick.there))⟩
            | refine ⟨(ruV s At ct Af cf), ?_, ⟨At, ct, Af, cf, t1.symm⟩, ?_⟩
              · show Ending.returned (.tuple #[.agg _, .bool true]) = .returned (.tuple #[.agg (ruV s At ct Af cf).cells.toArray, .bool true])
                rw [show (ruV s At ct Af cf).cells = [.int .i64 (q0 s).1, .slice At (q2 s).1.length ct, .int .i64 (q3 s).1, .int .i64 (q4 s).1, .slice Af (q6 s).1.length cf, .int .i64 (q7 s).1, .int .i64 (q8 s).1, .int .i64 (q9 s).1, .int .i64 (q10 s).1] from rfl, hl2, hl6]
                try rfl
              · have h9 := ((((((hS.pick (A := blkA g2 25 _) (by repeat first | exact .here _ _ | assumption | apply Pick.there)).drop.pick (A := blkA g5 25 _) (by repeat first | exact .here _ _ | assumption | apply Pick.there)).drop.pick (A := blkA g1 50 [.pointer (some ⟨g, 0, none⟩)]) (by repeat first | exact .here _ _ | assumption | apply Pick.there)).drop.pick (A := rowA 42 3 Af _ cf _) (by repeat first | exact .here _ _ | assumption | apply Pick.there)).pick (A := rowA 40 2 At _ ct _) (by repeat first | exact .here _ _ | assumption | apply Pick.there)).pick (A := rdrA W 93 g (q10 s).2) (by repeat first | exact .here _ _ | assumption | apply Pick.there))
                rw [← hl2, ← hl6] at h9
                exact h9
end Go.Proofs.YtmgobaojioaioaaDoor
