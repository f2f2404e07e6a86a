/- The chapter's example of acks. -/
import Derived.Test.YtmgobaojioaioaaAo
namespace Go.Proofs.Ytmgobaojioaioaa
open Go Go.RowKit Go.Lib
variable {W : World}
theorem new_in {n : Int} (h : 1 ≤ n ∧ n ≤ 7) : Calls Try.prog 70 #[.int .i64 n] W fun e w' => e = .returned (.tuple #[.agg (tcs n (fun _ => 0)).toArray, .int .i64 0]) ∧ St W w' [] := by
  have := new_calls (W := W) (n := n)
  rw [if_pos h, if_pos h] at this
  exact this
-- alives_calls: no such function here
end Go.Proofs.Ytmgobaojioaioaa
