/- Codec: general lemmas. -/
import Derived.Test.YtlppgpidakfnlaaCe
import Derived.Test.YtlppgpidakfnlaaOp
namespace Go.Proofs.Ytlppgpidakfnlaa
open Go Go.RowKit Go.Lib
theorem getD_mem {α : Type} {l : List α} {j : Nat} {d : α} (h : j < l.length) : l.getD j d ∈ l := by
  rw [List.getD_eq_getElem?_getD, List.getElem?_eq_getElem h]; exact List.getElem_mem h
theorem enc_300 : enc 300 = [172, 2] := by
  rw [enc_big (by decide), enc_small (by decide)]; rfl
end Go.Proofs.Ytlppgpidakfnlaa
