/- make and copy: a row of zeros; bytes copied into a row of the call's own. -/
import Derived.Test.YtlppgpidakfnlaaSr
import Derived.Laws.MakeOwn
namespace Go.Proofs.Ytlppgpidakfnlaa
open Go Go.RowKit
theorem madeCells_one (v : Value) (n : Nat) : (madeCells #[v] n).toList = List.replicate n v := by
  apply List.ext_getElem
  · simp [madeCells]
  · intro i h1 h2
    simp [madeCells, Nat.mod_one]
section
variable {P : Program} {all : Array Oper} {ρ : Env} {W w : World} {L R : List Asn} {N : Env → World → Prop} {rest : List Oper}
theorem t_make {t e : TypeId} {x y : Operand} {ty : TypeId} {d : Tmp} {p : String} {af : Array Edge} {i : TypeInfo} {z : Value} (ht : P.underlying t = some (.slice e)) (hi : P.info? e = some i) (hz : i.zero = some z) (hzc : z.cells = #[z]) (hsize : i.size = 1)
    {kl kc : IntKind} {n : Nat} (hx : ev ρ x = .int kl (n : Int)) (hy : ev ρ y = .int kc (n : Int)) (hbytes : i.bytes * n ≤ 281474976710656) (h63 : n ≤ maxLen) (hS : St W w L)
    (h : ∀ g w', St W w' (rowA e 1 (some ⟨g, 0, none⟩) n n (List.replicate n z) :: L) → textE P all rest (up ρ d (.slice (some ⟨g, 0, none⟩) n n)) w' N) :
    textE P all (⟨some d, .makeSlice t x y, ty, p, af, none⟩ :: rest) ρ w N := by
  have h63' : (n : Int) ≤ 9223372036854775807 := by have h := h63; simp [maxLen] at h; omega
  have hb' : (i.bytes : Int) * (n : Int) ≤ 281474976710656 := by
    have h : ((i.bytes * n : Nat) : Int) ≤ 281474976710656 := by omega
    rwa [Int.natCast_mul] at h
  have hr := run_make (P := P) w t e i z ht hi hz kl kc n n (by omega) (Int.le_refl _) hb' h63'
  simp only [Int.toNat_natCast, hsize, hzc, Nat.mul_one] at hr
  refine t_val (w' := w.alloc (.cells (madeCells #[z] n) e)) (v := .slice (some ⟨w.heap.size, 0, none⟩) n n) (fun dst pos af gd => ?_) (h w.heap.size _ ?_)
  · simp [execOp, hx, hy, hr]
  · have hrow := World.ownsRow_lit (base := 0) (e := e) (size := 1) w (madeCells #[z] n) n (Nat.zero_le _) h63 (by rw [size_madeCells, Nat.mul_one])
    rw [madeCells_one] at hrow
    exact hS.add (Fr.alloc [] w _) (F := [w.heap.size]) ⟨rfl, hrow⟩ (fun k hk => by rw [List.mem_singleton.1 hk]; exact Nat.le_refl _)
end
section
variable {P : Program} {ρ : Env} {w : World} {ty : TypeId}
end
section
variable {P : Program} {ops : Array Oper} {I : World → Prop} {N : Env → World → Prop} {ρ : Env} {w : World} {done : List Nat} {n : Nat}
end
theorem rep_bv (n : Nat) : List.replicate n (Value.int .u8 0) = (List.replicate n (0 : UInt8)).map bv := by rw [List.map_replicate]; rfl
end Go.Proofs.Ytlppgpidakfnlaa
