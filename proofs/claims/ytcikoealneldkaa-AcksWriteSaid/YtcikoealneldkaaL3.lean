/- Whatever is said and dropped, each call tells what the document says: the walk. -/
import Derived.Test.YtcikoealneldkaaAq
namespace Go.Proofs.Ytcikoealneldkaa
open Go Go.RowKit Go.Lib
variable {W : World}
structure AckOp where
  kind : Int
  replica : Int
  version : Int
instance : Inhabited AckOp := ⟨⟨0, 0, 0⟩⟩
def AckOp.cells (x : AckOp) : List Value := [.int .i64 x.kind, .int .i64 x.replica, .int .i64 x.version]
structure AckOp.Ok (w : World) (x : AckOp) : Prop where
  kind : -9223372036854775808 ≤ x.kind ∧ x.kind ≤ 9223372036854775807
  replica : -9223372036854775808 ≤ x.replica ∧ x.replica ≤ 9223372036854775807
  version : -9223372036854775808 ≤ x.version ∧ x.version ≤ 9223372036854775807
set_option maxRecDepth 100000 in
theorem opn_AckOp {H : Type} {enc : TypeId × Value → H} {w : World} : Opn enc Try.prog w 37 AckOp.cells (AckOp.Ok w) := fun _ _ _ h => by
  obtain ⟨parts, rfl, hl, hf⟩ := opn_parts Try.underlying37 (by kernel_rfl) (by kernel_rfl) h
  match parts, hl with
  | [p0, p1, p2], _ =>
    obtain ⟨f0, x0, h0⟩ := hf 0 _ rfl
    obtain ⟨a0, e0, k0⟩ := (opn_i64 Try.underlying3) _ _ _ h0
    replace e0 : p0 = _ := e0
    obtain ⟨f1, x1, h1⟩ := hf 1 _ rfl
    obtain ⟨a1, e1, k1⟩ := (opn_i64 Try.underlying3) _ _ _ h1
    replace e1 : p1 = _ := e1
    obtain ⟨f2, x2, h2⟩ := hf 2 _ rfl
    obtain ⟨a2, e2, k2⟩ := (opn_i64 Try.underlying3) _ _ _ h2
    replace e2 : p2 = _ := e2
    subst e0 e1 e2
    exact ⟨⟨a0, a1, a2⟩, by simp [AckOp.cells], ⟨k0, k1, k2⟩⟩
def aof (l : List AckOp) (i : Nat) : List Value := (l.getD i default).cells
def RdOp (w : World) (A : Option Addr) (l : List AckOp) : Prop := Rd w 3 A l.length (aof l)
theorem ofF_nil {n : Int} : tcs n (ofF []) = tcs n (fun _ => 0) := rfl
theorem ofF_add {n r v : Int} {L : AckL} (hr : 0 ≤ r) : tcs n (addT (ofF L) r v) = tcs n (ofF (L ++ [(r, v)])) := tcs_congr fun i _ => by
  unfold addT upd1 orT ofF
  split
  · rename_i h
    subst h
    rw [show ((r.toNat : Nat) : Int) = r from by omega, Int.toNat_natCast, ofN_add]
  · rename_i h
    rw [ofN_other L v (by omega)]
theorem ofF_drop {n v : Int} {L : AckL} : tcs n (dJ (ofF L) v 7) = tcs n (ofF (dropL L v)) := tcs_congr fun i hi => by
  unfold dJ anT ofF
  rw [if_pos hi, Int.toNat_natCast, ofN_drop]
theorem AckOk.snoc {n r v : Int} {L : AckL} (h : AckOk n L) (h1 : (0 ≤ r ∧ r < n) ∧ (1 ≤ v ∧ v ≤ 32)) : AckOk n (L ++ [(r, v)]) := fun a ha => by
  rcases List.mem_append.1 ha with ha | ha
  · exact h a ha
  · rw [List.mem_singleton.1 ha]; exact h1
theorem AckOk.drop {n v : Int} {L : AckL} (h : AckOk n L) : AckOk n (dropL L v) := fun a ha => h a (List.mem_filter.1 ha).1

end Go.Proofs.Ytcikoealneldkaa
