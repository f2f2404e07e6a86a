/- Registries: written. -/
import Derived.Test.YtmgobaojioaioaaWd
import Derived.Test.YtmgobaojioaioaaWe
namespace Go.Proofs.Ytmgobaojioaioaa
open Go Go.RowKit Go.Lib
variable {W : World}
theorem ver_getD {M : List RuV} {j : Nat} (hj : j < M.length) : (M.map (·.version)).getD j 0 = (M.getD j default).version := by
  rw [List.getD_eq_getElem?_getD, List.getD_eq_getElem?_getD, List.getElem?_map, List.getElem?_eq_getElem hj]
  rfl
theorem rd_vers {w : World} {t : TypeId} {L R : List Asn} {A : Option Addr} {c : Nat} {M : List RuV} (hS : St W w L) (pk : Pick L (rowA t 1 A M.length c ((M.map (·.version)).map (Value.int .i64))) R) : Rd w 1 A M.length (fun i => [.int .i64 ((M.map (·.version)).getD i 0)]) := by
  have h := hS.rowInts (ns := M.map (·.version)) pk (by rw [List.length_map])
  rw [RdI, List.length_map] at h
  exact h
attribute [local irreducible] blkA rowA rdsA mapA regA
end Go.Proofs.Ytmgobaojioaioaa
