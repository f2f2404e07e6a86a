/- Events: plain, as bytes, and when two are the same. -/
import Derived.Test.YtlppgpidakfnlaaCt
import Derived.Test.YtlppgpidakfnlaaCe
import Derived.Test.YtlppgpidakfnlaaQ
import Derived.Test.YtlppgpidakfnlaaOp
namespace Go.Proofs.Ytlppgpidakfnlaa
open Go Go.RowKit Go.Lib
variable {W : World}
structure Ev where
  kind : Int
  account : Int
  id : Int
  other : Int
  side : Int
  price : Int
  qty : Int
  fee : Int
  fee2 : Int
  code : Int
  version : Int
  index : Int
instance : Inhabited Ev := ⟨⟨0, 0, 0, 0, 0, 0, 0, 0, 0, 0, 0, 0⟩⟩
def Ev.cells (x : Ev) : List Value := [.int .i64 x.kind, .int .i64 x.account, .int .u64 x.id, .int .u64 x.other, .int .i64 x.side, .int .i64 x.price, .int .i64 x.qty, .int .i64 x.fee, .int .i64 x.fee2, .int .i64 x.code, .int .i64 x.version, .int .u64 x.index]
structure Ev.Ok (w : World) (x : Ev) : Prop where
  kind : -9223372036854775808 ≤ x.kind ∧ x.kind ≤ 9223372036854775807
  account : -9223372036854775808 ≤ x.account ∧ x.account ≤ 9223372036854775807
  id : 0 ≤ x.id ∧ x.id < 18446744073709551616
  other : 0 ≤ x.other ∧ x.other < 18446744073709551616
  side : -9223372036854775808 ≤ x.side ∧ x.side ≤ 9223372036854775807
  price : -9223372036854775808 ≤ x.price ∧ x.price ≤ 9223372036854775807
  qty : -9223372036854775808 ≤ x.qty ∧ x.qty ≤ 9223372036854775807
  fee : -9223372036854775808 ≤ x.fee ∧ x.fee ≤ 9223372036854775807
  fee2 : -9223372036854775808 ≤ x.fee2 ∧ x.fee2 ≤ 9223372036854775807
  code : -9223372036854775808 ≤ x.code ∧ x.code ≤ 9223372036854775807
  version : -9223372036854775808 ≤ x.version ∧ x.version ≤ 9223372036854775807
  index : 0 ≤ x.index ∧ x.index < 18446744073709551616
def Ev.In (e : Ev) : Prop := (-9223372036854775808 ≤ e.kind ∧ e.kind ≤ 9223372036854775807) ∧ (-9223372036854775808 ≤ e.account ∧ e.account ≤ 9223372036854775807) ∧ (0 ≤ e.id ∧ e.id < 18446744073709551616) ∧ (0 ≤ e.other ∧ e.other < 18446744073709551616) ∧ (-9223372036854775808 ≤ e.side ∧ e.side ≤ 9223372036854775807) ∧ (-9223372036854775808 ≤ e.price ∧ e.price ≤ 9223372036854775807) ∧ (-9223372036854775808 ≤ e.qty ∧ e.qty ≤ 9223372036854775807) ∧ (-9223372036854775808 ≤ e.fee ∧ e.fee ≤ 9223372036854775807) ∧ (-9223372036854775808 ≤ e.fee2 ∧ e.fee2 ≤ 9223372036854775807) ∧ (-9223372036854775808 ≤ e.code ∧ e.code ≤ 9223372036854775807) ∧ (-9223372036854775808 ≤ e.version ∧ e.version ≤ 9223372036854775807) ∧ (0 ≤ e.index ∧ e.index < 18446744073709551616)
def evB (e : Ev) : List UInt8 := enc (zig e.kind) ++ (enc (zig e.account) ++ (enc e.id.toNat ++ (enc e.other.toNat ++ (enc (zig e.side) ++ (enc (zig e.price) ++ (enc (zig e.qty) ++ (enc (zig e.fee) ++ (enc (zig e.fee2) ++ (enc (zig e.code) ++ (enc (zig e.version) ++ enc e.index.toNat))))))))))
theorem evB_len {e : Ev} (h : e.In) : (evB e).length ≤ 120 := by
  obtain ⟨h1, h2, h3, h4, h5, h6, h7, h8, h9, h10, h11, h12⟩ := h
  have := enc_ten (zig_lt h1.1 h1.2)
  have := enc_ten (zig_lt h2.1 h2.2)
  have := enc_ten (n := e.id.toNat) (by omega)
  have := enc_ten (n := e.other.toNat) (by omega)
  have := enc_ten (zig_lt h5.1 h5.2)
  have := enc_ten (zig_lt h6.1 h6.2)
  have := enc_ten (zig_lt h7.1 h7.2)
  have := enc_ten (zig_lt h8.1 h8.2)
  have := enc_ten (zig_lt h9.1 h9.2)
  have := enc_ten (zig_lt h10.1 h10.2)
  have := enc_ten (zig_lt h11.1 h11.2)
  have := enc_ten (n := e.index.toNat) (by omega)
  unfold evB
  simp only [List.length_append]
  omega
def evsB (l : List Ev) : List UInt8 := enc l.length ++ l.flatMap evB
theorem evsB_len {l : List Ev} (h : ∀ e ∈ l, e.In) : (l.flatMap evB).length ≤ 120 * l.length := by
  induction l with
  | nil => simp
  | cons e l ih =>
    have h1 := evB_len (h e List.mem_cons_self)
    have h2 := ih fun x hx => h x (List.mem_cons_of_mem _ hx)
    simp only [List.flatMap_cons, List.length_append, List.length_cons]
    omega
def Rs.all (s : Rs) : Int × Rs := ((((s.nat allNat).1 : Nat) : Int), (s.nat allNat).2)
def evR (s : Rs) : Ev × Rs :=
  (⟨s.int.1, s.int.2.int.1, s.int.2.int.2.all.1, s.int.2.int.2.all.2.all.1, s.int.2.int.2.all.2.all.2.int.1, s.int.2.int.2.all.2.all.2.int.2.int.1, s.int.2.int.2.all.2.all.2.int.2.int.2.int.1, s.int.2.int.2.all.2.all.2.int.2.int.2.int.2.int.1, s.int.2.int.2.all.2.all.2.int.2.int.2.int.2.int.2.int.1, s.int.2.int.2.all.2.all.2.int.2.int.2.int.2.int.2.int.2.int.1, s.int.2.int.2.all.2.all.2.int.2.int.2.int.2.int.2.int.2.int.2.int.1, s.int.2.int.2.all.2.all.2.int.2.int.2.int.2.int.2.int.2.int.2.int.2.all.1⟩,
    s.int.2.int.2.all.2.all.2.int.2.int.2.int.2.int.2.int.2.int.2.int.2.all.2)
theorem all_lt (s : Rs) : 0 ≤ s.all.1 ∧ s.all.1 < 18446744073709551616 := by have := s.nat_le allNat; unfold allNat at this; show 0 ≤ (((s.nat allNat).1 : Nat) : Int) ∧ (((s.nat allNat).1 : Nat) : Int) < 18446744073709551616; unfold allNat; omega
theorem int_in (s : Rs) : -9223372036854775808 ≤ s.int.1 ∧ s.int.1 ≤ 9223372036854775807 := unzig_range (by have := s.nat_le allNat; unfold allNat at *; omega)
theorem evR_in (s : Rs) : (evR s).1.In := by
  dsimp only [Ev.In, evR]
  exact ⟨int_in _, int_in _, all_lt _, all_lt _, int_in _, int_in _, int_in _, int_in _, int_in _, int_in _, int_in _, all_lt _⟩
theorem Rs.all_enc {n : Int} (h0 : 0 ≤ n) (h1 : n < 18446744073709551616) (rest : List UInt8) (b : Bool) : (Rs.mk (enc n.toNat ++ rest) b).all = (n, ⟨rest, b⟩) := by
  unfold Rs.all
  rw [Rs.nat_enc (by unfold allNat; omega) (by unfold allNat; omega)]
  show (((n.toNat : Nat) : Int), _) = _
  rw [Int.toNat_of_nonneg h0]
theorem evR_enc {e : Ev} (h : e.In) (rest : List UInt8) (b : Bool) : evR ⟨evB e ++ rest, b⟩ = (e, ⟨rest, b⟩) := by
  obtain ⟨h1, h2, h3, h4, h5, h6, h7, h8, h9, h10, h11, h12⟩ := h
  unfold evR evB
  simp only [List.append_assoc, Rs.int_enc h1.1 h1.2, Rs.int_enc h2.1 h2.2, Rs.all_enc h3.1 h3.2, Rs.all_enc h4.1 h4.2, Rs.int_enc h5.1 h5.2, Rs.int_enc h6.1 h6.2, Rs.int_enc h7.1 h7.2, Rs.int_enc h8.1 h8.2, Rs.int_enc h9.1 h9.2, Rs.int_enc h10.1 h10.2, Rs.int_enc h11.1 h11.2, Rs.all_enc h12.1 h12.2]
def evk (s : Rs) : Nat → List Ev × Rs
  | 0 => ([], (s.nat 256).2)
  | k + 1 => ((evk s k).1 ++ [(evR (evk s k).2).1], (evR (evk s k).2).2)
def evN (s : Rs) : Nat := (s.nat 256).1
theorem evN_le (s : Rs) : evN s ≤ 256 := s.nat_le 256
theorem evk_len (s : Rs) : ∀ k, (evk s k).1.length = k
  | 0 => rfl
  | k + 1 => by rw [evk, List.length_append, evk_len s k]; rfl
theorem evk_in (s : Rs) : ∀ k, ∀ e ∈ (evk s k).1, e.In
  | 0 => fun _ h => by cases h
  | k + 1 => fun e h => by
    rcases List.mem_append.1 h with h | h
    · exact evk_in s k e h
    · rw [List.mem_singleton.1 h]; exact evR_in _
theorem evk_enc {l : List Ev} (hl : l.length ≤ 256) (hi : ∀ e ∈ l, e.In) (rest : List UInt8) (b : Bool) : ∀ k, k ≤ l.length → evk ⟨evsB l ++ rest, b⟩ k = (l.take k, ⟨(l.drop k).flatMap evB ++ rest, b⟩)
  | 0, _ => by
    show (([] : List Ev), ((⟨evsB l ++ rest, b⟩ : Rs).nat 256).2) = _
    rw [evsB, List.append_assoc, Rs.nat_enc hl (by omega)]
    rfl
  | k + 1, h => by
    rw [evk, evk_enc hl hi rest b k (by omega)]
    simp only
    rw [List.drop_eq_getElem_cons (show k < l.length by omega), List.flatMap_cons, List.append_assoc, evR_enc (hi _ (List.getElem_mem _)), List.take_succ_eq_append_getElem (by omega)]
theorem evN_enc {l : List Ev} (hl : l.length ≤ 256) (rest : List UInt8) (b : Bool) : evN ⟨evsB l ++ rest, b⟩ = l.length := by
  unfold evN
  rw [evsB, List.append_assoc, Rs.nat_enc hl (by omega)]
def kindB (n : Int) : Bool := decide (1 ≤ n) && decide (n ≤ 15)
def evOk (s : Rs) : Bool := !(evk s (evN s)).2.bad && (evk s (evN s)).1.all fun e => kindB e.kind
/-- what reading tells: the events (none if they are refused), and the reader behind it -/
def evL (s : Rs) : List Ev := if evOk s then (evk s (evN s)).1 else []
def evS (s : Rs) : Rs := if evOk s then (evk s (evN s)).2 else s.fail
theorem evL_in (s : Rs) : ∀ e ∈ evL s, e.In := fun e h => by
  unfold evL at h
  split at h
  · exact evk_in s _ e h
  · cases h
theorem evL_len (s : Rs) : (evL s).length ≤ 256 := by
  unfold evL
  split
  · rw [evk_len]; exact evN_le s
  · simp
theorem ev_back {l : List Ev} (hl : l.length ≤ 256) (hi : ∀ e ∈ l, e.In) (hk : ∀ e ∈ l, 1 ≤ e.kind ∧ e.kind ≤ 15) (rest : List UInt8) : evOk ⟨evsB l ++ rest, false⟩ = true ∧ evL ⟨evsB l ++ rest, false⟩ = l ∧ evS ⟨evsB l ++ rest, false⟩ = ⟨rest, false⟩ := by
  have h1 := evk_enc hl hi rest false l.length (Nat.le_refl _)
  rw [List.take_length, List.drop_length] at h1
  have ho : evOk ⟨evsB l ++ rest, false⟩ = true := by
    unfold evOk
    rw [evN_enc hl, h1]
    simp only [Bool.and_eq_true, List.all_eq_true, kindB, decide_eq_true_eq]
    exact ⟨rfl, hk⟩
  refine ⟨ho, ?_, ?_⟩
  · unfold evL; rw [if_pos ho, evN_enc hl, h1]
  · unfold evS; rw [if_pos ho, evN_enc hl, h1]; rfl
theorem Ev.Ok.in {w : World} {e : Ev} (h : e.Ok w) : e.In := ⟨h.kind, h.account, h.id, h.other, h.side, h.price, h.qty, h.fee, h.fee2, h.code, h.version, h.index⟩
def evf (l : List Ev) (i : Nat) : List Value := (l.getD i default).cells
def RdEv (w : World) (A : Option Addr) (l : List Ev) : Prop := Rd w 12 A l.length (evf l)
theorem RdEv.st {w : World} {Q : List Asn} {A : Option Addr} {l : List Ev} (h : RdEv W A l) (hS : St W w Q) : RdEv w A l := Rd.st h hS
theorem rowRdE {w : World} {Q R : List Asn} {A : Option Addr} {m c : Nat} {l : List Ev} (hS : St W w Q) (pk : Pick Q (rowA 206 12 A m c (l.flatMap Ev.cells)) R) (hm : m = l.length) : RdEv w A l := hS.rowRdL pk hm (fun _ => rfl)
theorem evf_in {l : List Ev} (h : ∀ e ∈ l, e.In) {j : Nat} (hj : j < l.length) : (l.getD j default).In := by
  rw [List.getD_eq_getElem?_getD, List.getElem?_eq_getElem hj]
  exact h _ (List.getElem_mem hj)
def Ev.ints (e : Ev) : List Int := [e.kind, e.account, e.id, e.other, e.side, e.price, e.qty, e.fee, e.fee2, e.code, e.version, e.index]
def Ev.lits (e : Ev) : List Lit := [.int .i64 e.kind, .int .i64 e.account, .int .u64 e.id, .int .u64 e.other, .int .i64 e.side, .int .i64 e.price, .int .i64 e.qty, .int .i64 e.fee, .int .i64 e.fee2, .int .i64 e.code, .int .i64 e.version, .int .u64 e.index]
theorem Ev.ints_inj {e q : Ev} (h : e.ints = q.ints) : e = q := by
  cases e; cases q
  simp only [Ev.ints, List.cons.injEq, and_true] at h
  simp only [Ev.mk.injEq]
  exact h
theorem Ev.lits_iff {e q : Ev} : decide (e.ints = q.ints) = true ↔ e.lits = q.lits := by
  simp [Ev.ints, Ev.lits]
theorem wf_i {n : Int} (h : -9223372036854775808 ≤ n ∧ n ≤ 9223372036854775807) : (Lit.int .i64 n).wf = true := by
  unfold Lit.wf
  simp [IntKind.min, IntKind.max, IntKind.bits, IntKind.signed]
  omega
theorem wf_u {n : Int} (h : 0 ≤ n ∧ n < 18446744073709551616) : (Lit.int .u64 n).wf = true := by
  unfold Lit.wf
  simp [IntKind.min, IntKind.max, IntKind.bits, IntKind.signed]
  omega
set_option maxRecDepth 100000 in
theorem ev_lits {e : Ev} (h : e.In) : Try.prog.keyLits 2 206 e.cells = some e.lits := by
  obtain ⟨h0, h1, h2, h3, h4, h5, h6, h7, h8, h9, h10, h11⟩ := h
  have k0 : Try.prog.keyLits 1 3 [.int .i64 e.kind] = some [.int .i64 e.kind] := keyLits_int1 Try.underlying3 (wf_i h0)
  have k1 : Try.prog.keyLits 1 3 [.int .i64 e.account] = some [.int .i64 e.account] := keyLits_int1 Try.underlying3 (wf_i h1)
  have k2 : Try.prog.keyLits 1 43 [.int .u64 e.id] = some [.int .u64 e.id] := keyLits_int1 Try.underlying43 (wf_u h2)
  have k3 : Try.prog.keyLits 1 43 [.int .u64 e.other] = some [.int .u64 e.other] := keyLits_int1 Try.underlying43 (wf_u h3)
  have k4 : Try.prog.keyLits 1 3 [.int .i64 e.side] = some [.int .i64 e.side] := keyLits_int1 Try.underlying3 (wf_i h4)
  have k5 : Try.prog.keyLits 1 2 [.int .i64 e.price] = some [.int .i64 e.price] := keyLits_int1 Try.underlying2 (wf_i h5)
  have k6 : Try.prog.keyLits 1 2 [.int .i64 e.qty] = some [.int .i64 e.qty] := keyLits_int1 Try.underlying2 (wf_i h6)
  have k7 : Try.prog.keyLits 1 2 [.int .i64 e.fee] = some [.int .i64 e.fee] := keyLits_int1 Try.underlying2 (wf_i h7)
  have k8 : Try.prog.keyLits 1 2 [.int .i64 e.fee2] = some [.int .i64 e.fee2] := keyLits_int1 Try.underlying2 (wf_i h8)
  have k9 : Try.prog.keyLits 1 29 [.int .i64 e.code] = some [.int .i64 e.code] := keyLits_int1 Try.underlying29 (wf_i h9)
  have k10 : Try.prog.keyLits 1 3 [.int .i64 e.version] = some [.int .i64 e.version] := keyLits_int1 Try.underlying3 (wf_i h10)
  have k11 : Try.prog.keyLits 1 43 [.int .u64 e.index] = some [.int .u64 e.index] := keyLits_int1 Try.underlying43 (wf_u h11)
  have c2 : Try.prog.cellsOf 2 = 1 := by kernel_rfl
  have c3 : Try.prog.cellsOf 3 = 1 := by kernel_rfl
  have c29 : Try.prog.cellsOf 29 = 1 := by kernel_rfl
  have c43 : Try.prog.cellsOf 43 = 1 := by kernel_rfl
  have cE : Try.prog.cellsOf 206 = 12 := by kernel_rfl
  show Try.prog.keyLits (1 + 1) 206 _ = _
  unfold Program.keyLits
  simp only [Try.underlying206]
  rw [if_pos ⟨by rw [cE]; rfl, by simp⟩]
  simp only [List.mapM_cons, List.mapM_nil, c2, c3, c29, c43]
  have d0 : (e.cells.drop 0).take 1 = [.int .i64 e.kind] := rfl
  have d1 : (e.cells.drop 1).take 1 = [.int .i64 e.account] := rfl
  have d2 : (e.cells.drop 2).take 1 = [.int .u64 e.id] := rfl
  have d3 : (e.cells.drop 3).take 1 = [.int .u64 e.other] := rfl
  have d4 : (e.cells.drop 4).take 1 = [.int .i64 e.side] := rfl
  have d5 : (e.cells.drop 5).take 1 = [.int .i64 e.price] := rfl
  have d6 : (e.cells.drop 6).take 1 = [.int .i64 e.qty] := rfl
  have d7 : (e.cells.drop 7).take 1 = [.int .i64 e.fee] := rfl
  have d8 : (e.cells.drop 8).take 1 = [.int .i64 e.fee2] := rfl
  have d9 : (e.cells.drop 9).take 1 = [.int .i64 e.code] := rfl
  have d10 : (e.cells.drop 10).take 1 = [.int .i64 e.version] := rfl
  have d11 : (e.cells.drop 11).take 1 = [.int .u64 e.index] := rfl
  rw [d0, k0, d1, k1, d2, k2, d3, k3, d4, k4, d5, k5, d6, k6, d7, k7, d8, k8, d9, k9, d10, k10, d11, k11]
  rfl
theorem ev_formed {e : Ev} : Value.formed Try.prog 206 (.agg e.cells.toArray) = true := by
  have cE : Try.prog.cellsOf 206 = 12 := by kernel_rfl
  simp [Value.formed, Try.underlying206, cE, Ev.cells]
theorem q_neq_ev {ρ : Env} {w : World} {ty yt : TypeId} {x y : Operand} {e q : Ev} (hx : ev ρ x = .agg e.cells.toArray) (hy : ev ρ y = .agg q.cells.toArray) (he : e.In) (hq : q.In) : qv Try.prog (.binOp .neq 206 x y yt) ty ρ w (.bool (!decide (e.ints = q.ints))) :=
  q_neq_lits (m := 2) hx hy (by kernel_rfl) (by decide) (by kernel_rfl) ev_formed ev_formed (ev_lits he) (ev_lits hq) Ev.lits_iff
def sameB (a b : List Ev) : Bool := decide (a.map Ev.ints = b.map Ev.ints)
theorem same_len {a b : List Ev} (h : a.length ≠ b.length) : sameB a b = false := decide_eq_false fun e => h (by have := congrArg List.length e; simpa using this)
theorem same_at {a b : List Ev} {j : Nat} (hj : j < a.length) (hl : a.length = b.length) (h : (a.getD j default).ints ≠ (b.getD j default).ints) : sameB a b = false := decide_eq_false fun e => h (by
  have := congrArg (fun l => l[j]?) e
  simp only [List.getElem?_map, List.getElem?_eq_getElem hj, List.getElem?_eq_getElem (show j < b.length by omega), Option.map_some, Option.some.injEq] at this
  rw [List.getD_eq_getElem?_getD, List.getD_eq_getElem?_getD, List.getElem?_eq_getElem hj, List.getElem?_eq_getElem (show j < b.length by omega)]
  exact this)
theorem same_all {a b : List Ev} (hl : a.length = b.length) (h : ∀ j, j < a.length → (a.getD j default).ints = (b.getD j default).ints) : sameB a b = true := decide_eq_true (by
  apply List.ext_getElem (by simpa using hl)
  intro j h1 h2
  simp only [List.length_map] at h1 h2
  have := h j h1
  rw [List.getD_eq_getElem?_getD, List.getD_eq_getElem?_getD, List.getElem?_eq_getElem h1, List.getElem?_eq_getElem h2] at this
  simpa using this)
theorem same_eq {a b : List Ev} (h : sameB a b = true) : a = b := by
  have h1 := of_decide_eq_true h
  induction a generalizing b with
  | nil => cases b with
    | nil => rfl
    | cons _ _ => cases h1
  | cons x a ih => cases b with
    | nil => cases h1
    | cons y b =>
      simp only [List.map_cons, List.cons.injEq] at h1
      rw [Ev.ints_inj h1.1, ih (decide_eq_true h1.2) h1.2]
def badL (l : List Ev) : Bool := l.any fun x => !kindB x.kind
theorem badL_iff {l : List Ev} : badL l = true ↔ ∃ j, j < l.length ∧ kindB (l.getD j default).kind = false := by
  unfold badL
  rw [List.any_eq_true]
  constructor
  · rintro ⟨x, hx, h⟩
    obtain ⟨j, hj, rfl⟩ := List.mem_iff_getElem.1 hx
    exact ⟨j, hj, by rw [List.getD_eq_getElem?_getD, List.getElem?_eq_getElem hj]; simpa using h⟩
  · rintro ⟨j, hj, h⟩
    refine ⟨l.getD j default, ?_, by rw [h]; rfl⟩
    rw [List.getD_eq_getElem?_getD, List.getElem?_eq_getElem hj]
    exact List.getElem_mem hj
def evE (l : List Ev) : Int := if 256 < l.length then 21 else if badL l then 2 else 0
def evBL (l : List Ev) : List UInt8 := if evE l = 0 then evsB l else []
theorem evE_long {l : List Ev} (h : 256 < l.length) : evE l = 21 ∧ evBL l = [] := by
  have : evE l = 21 := by unfold evE; rw [if_pos h]
  exact ⟨this, by unfold evBL; rw [this]; rfl⟩
theorem evE_bad {l : List Ev} (h : ¬ 256 < l.length) (hb : badL l = true) : evE l = 2 ∧ evBL l = [] := by
  have : evE l = 2 := by unfold evE; rw [if_neg h, if_pos hb]
  exact ⟨this, by unfold evBL; rw [this]; rfl⟩
theorem evE_ok {l : List Ev} (h : ¬ 256 < l.length) (hb : badL l = false) : evE l = 0 ∧ evBL l = evsB l := by
  have : evE l = 0 := by unfold evE; rw [if_neg h, if_neg (by rw [hb]; decide)]
  exact ⟨this, by unfold evBL; rw [if_pos this]⟩
theorem evE_zero {l : List Ev} (h : evE l = 0) : l.length ≤ 256 ∧ (∀ e ∈ l, 1 ≤ e.kind ∧ e.kind ≤ 15) := by
  by_cases h1 : 256 < l.length
  · rw [(evE_long h1).1] at h; cases h
  · cases hb : badL l with
    | true => rw [(evE_bad h1 hb).1] at h; cases h
    | false =>
      refine ⟨by omega, fun e he => ?_⟩
      unfold badL at hb
      rw [List.any_eq_false] at hb
      have := hb e he
      simpa [kindB] using this
def evP (l : List Ev) (j : Nat) : List UInt8 := enc l.length ++ (l.take j).flatMap evB
theorem evP_snoc {l : List Ev} {j : Nat} (h : j < l.length) : evP l (j + 1) = evP l j ++ evB (l.getD j default) := by
  unfold evP
  rw [List.take_succ_eq_append_getElem h, List.flatMap_append, List.getD_eq_getElem?_getD, List.getElem?_eq_getElem h, List.append_assoc]
  simp
theorem evP_zero (l : List Ev) : evP l 0 = enc l.length := by unfold evP; simp
theorem evP_all (l : List Ev) : evP l l.length = evsB l := by unfold evP evsB; rw [List.take_length]
theorem evP_len {l : List Ev} (h : ∀ e ∈ l, e.In) (hl : l.length ≤ 1000000) (j : Nat) : (evP l j).length ≤ 130000000 := by
  have h1 := enc_ten (n := l.length) (by omega)
  have h2 := evsB_len (l := l.take j) fun e he => h e (List.mem_of_mem_take he)
  rw [List.length_take] at h2
  unfold evP
  rw [List.length_append]
  omega
def Ev.sev (e : Ev) : List Int := [e.side, e.price, e.qty, e.fee, e.fee2, e.code, e.version]
theorem ev_zig {e : Ev} (h : e.In) : (ints [e.kind, e.account]).length ≤ 20 ∧ (encs [e.id, e.other]).length ≤ 20 ∧ (ints e.sev).length ≤ 70 ∧ (encs [e.index]).length ≤ 10 := by
  obtain ⟨h1, h2, h3, h4, h5, h6, h7, h8, h9, h10, h11, h12⟩ := h
  refine ⟨ints_length ?_, encs_length ?_, ints_length ?_, encs_length ?_⟩ <;> simp only [Ev.sev, List.mem_cons, List.not_mem_nil, or_false] <;> intro n hn <;> omega
theorem evB_parts (e : Ev) : evB e = ints [e.kind, e.account] ++ (encs [e.id, e.other] ++ (ints e.sev ++ encs [e.index])) := by
  simp [evB, ints, encs, Ev.sev, List.append_assoc]
end Go.Proofs.Ytlppgpidakfnlaa
