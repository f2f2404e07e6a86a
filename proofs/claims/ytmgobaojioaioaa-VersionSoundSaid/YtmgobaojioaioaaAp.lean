
/- Tables of acks as plain data: what the program's table has, what the document's has. -/
namespace Go.Proofs.Ytmgobaojioaioaa
def bitN (v : Int) : Nat := if 1 ≤ v ∧ v ≤ 32 then 2 ^ (v - 1).toNat else 0
abbrev AckL := List (Int × Int)
theorem bitN_lt (v : Int) : bitN v < 4294967296 := by
  unfold bitN
  split
  · exact Nat.lt_of_le_of_lt (Nat.pow_le_pow_right (by decide) (show (v - 1).toNat ≤ 31 by omega)) (by decide)
  · decide
end Go.Proofs.Ytmgobaojioaioaa
