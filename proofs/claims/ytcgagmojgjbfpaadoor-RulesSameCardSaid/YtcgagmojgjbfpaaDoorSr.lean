/- Storing through a pointer into a slice of the call's own. -/
import Derived.Test.YtcgagmojgjbfpaaDoorQ
namespace Go.Proofs.YtcgagmojgjbfpaaDoor
open Go Go.RowKit Go.Lib
theorem setN_take (vs : List Value) : ∀ (cs : List Value) (off m : Nat), (setN cs off vs).take m = setN (cs.take m) off vs := by
  induction vs with
  | nil => intro cs off m; rfl
  | cons v vs ih => intro cs off m; rw [setN, setN, ih, List.take_set]
section
variable {W w : World} {L R : List Asn}
theorem St.row_some {e : TypeId} {size : Nat} {A : Option Addr} {n c : Nat} {xs : List Value} (hS : St W w L) (pk : Pick L (rowA e size A n c xs) R) (hn : 0 < n) : ∃ g, A = some ⟨g, 0, none⟩ := by
  rcases (hS.row pk).2 with ⟨_, h0⟩ | ⟨g, cap, cur, hv, _⟩
  · omega
  · injection hv with hA
    exact ⟨g, hA⟩
end
section
variable {P : Program} {all : Array Oper} {ρ : Env} {W w : World} {L R : List Asn} {N : Env → World → Prop} {rest : List Oper}
theorem t_store_row {t : TypeId} {x y : Operand} {ty : TypeId} {d : Option Tmp} {p : String} {af : Array Edge} {n m g off size c : Nat} {e : TypeId} {xs vs : List Value} {v : Value} (hz : ∀ w, (sizeOf t).run P w = .ok n w)
    (hS : St W w L) (pk : Pick L (rowA e size (some ⟨g, 0, none⟩) m c xs) R) (hx : ev ρ x = .pointer (some ⟨g, off, none⟩)) (hy : ev ρ y = v) (hv : v.cells = vs.toArray) (hn : vs.length = n) (h1 : allOne vs = true) (hl : off + vs.length ≤ m * size)
    (h : ∀ w', St W w' (rowA e size (some ⟨g, 0, none⟩) m c (setN xs off vs) :: R) → textE P all rest (putE ρ d undef) w' N) : textE P all (⟨d, .store t x y, ty, p, af, none⟩ :: rest) ρ w N := by
  obtain ⟨hxl, ⟨h0, _⟩ | ⟨g', cap, cur, hval, hb, hg, hmc, hcm, hcs, htk⟩⟩ := hS.row pk
  · cases h0
  · injection hval with hA hm' hc'
    injection hA with hA
    injection hA with hA
    subst hA hc'
    have hle : m * size ≤ c * size := Nat.mul_le_mul_right _ hmc
    have hB : Blk w g e cur.toList := by unfold Blk; rw [hg]
    obtain ⟨w', hr, hb', hf⟩ := run_store_blk (P := P) (off := off) hz hB hv hn h1 (by rw [show cur.toList.length = c * size from by rw [Array.length_toList, hcs]]; omega)
    refine t_skip (w' := w') (fun dst pos af gd => ?_) (h w' ?_)
    · simp [execOp, hx, hy, hr]
    · refine (hS.pick pk).upd fun F hF => ?_
      obtain ⟨rfl, _⟩ := hF
      refine ⟨hf, [g], ⟨rfl, by rw [setN_length]; exact hxl, .inr ⟨g, c, (setN cur.toList off vs).toArray, rfl, Nat.zero_le _, hb', hmc, hcm, ?_, ?_⟩⟩, fun _ hk => .inl hk⟩
      · simp [setN_length, hcs]
      · rw [← htk, ← setN_take]
end
end Go.Proofs.YtcgagmojgjbfpaaDoor
