
/- Numbers and texts as bytes: plain functions. -/
namespace Go.Proofs.YtcgagmojgjbfpaaDoor
def enc (n : Nat) : List UInt8 := if n < 128 then [UInt8.ofNat n] else UInt8.ofNat (n % 128 + 128) :: enc (n / 128)
termination_by n
/-- a number's bytes read: i: how many were read, acc: what they say -/
def decFrom (most : Nat) : Nat → Nat → List UInt8 → Option (Nat × List UInt8)
  | _, _, [] => none
  | i, acc, c :: rest =>
    if 10 ≤ i then none
    else if i = 9 ∧ 1 < c.toNat % 128 then none
    else if 128 ≤ c.toNat then decFrom most (i + 1) (acc + c.toNat % 128 * 128 ^ i) rest
    else if (0 < i ∧ c.toNat = 0) ∨ most < acc + c.toNat % 128 * 128 ^ i then none
    else some (acc + c.toNat % 128 * 128 ^ i, rest)
/-- what is left to read; whether it is bad -/
structure Rs where
  left : List UInt8
  bad : Bool
def Rs.fail (_ : Rs) : Rs := ⟨[], true⟩
def Rs.nat (s : Rs) (most : Nat) : Nat × Rs :=
  match decFrom most 0 0 s.left with
  | some (n, rest) => (n, ⟨rest, s.bad⟩)
  | none => (0, s.fail)
def unzig (n : Nat) : Int := if n % 2 = 0 then ((n / 2 : Nat) : Int) else -((n / 2 : Nat) : Int) - 1
def allNat : Nat := 18446744073709551615
def Rs.int (s : Rs) : Int × Rs := (unzig (s.nat allNat).1, (s.nat allNat).2)
def Rs.text (s : Rs) (most : Int) : List UInt8 × Rs :=
  if most < 0 then ([], s.fail)
  else if (s.nat most.toNat).2.left.length < (s.nat most.toNat).1 then ([], s.fail)
  else ((s.nat most.toNat).2.left.take (s.nat most.toNat).1, ⟨(s.nat most.toNat).2.left.drop (s.nat most.toNat).1, (s.nat most.toNat).2.bad⟩)
section
variable {most j acc : Nat} {l : List UInt8}
end
end Go.Proofs.YtcgagmojgjbfpaaDoor
