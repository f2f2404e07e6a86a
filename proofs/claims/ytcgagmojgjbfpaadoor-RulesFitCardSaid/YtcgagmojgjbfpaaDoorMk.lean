/- make and copy: a row of zeros; bytes copied into a row of the call's own. -/
import Derived.Test.YtcgagmojgjbfpaaDoorQ
import Derived.Laws.MakeOwn
namespace Go.Proofs.YtcgagmojgjbfpaaDoor
open Go Go.RowKit
section
variable {P : Program} {all : Array Oper} {ρ : Env} {W w : World} {L R : List Asn} {N : Env → World → Prop} {rest : List Oper}
end
section
variable {P : Program} {ρ : Env} {w : World} {ty : TypeId}
end
section
variable {P : Program} {ops : Array Oper} {I : World → Prop} {N : Env → World → Prop} {ρ : Env} {w : World} {done : List Nat} {n : Nat}
/-- left out: its guard's own operation was left out -/
theorem p_nu (hap : apartB ops = true) (hsel : noSelect ops = true) (r : Nat) {d : Option Tmp} {op : Op} {ty : TypeId} {p : String} {af : Array Edge} {j dj : Nat} {want : Bool} (ho : ops.toList[r]? = some ⟨d, op, ty, p, af, some (j, want)⟩) (hr : readyE ops done r = true) (hI : I w)
    (hd : (ops.toList[j]?).bind (·.dst) = some dj) (hv : ρ dj = undef)
    (h : anyC P ops I n (r :: done) (putE ρ d undef) w N) : anyC P ops I (n + 1) done ρ w N := by
  rw [Array.getElem?_toList] at ho hd
  refine fun hcl => any_pull hap hsel ho n hcl hr (fun w' hI' K hK => ?_) hI (h (hcl.cons hr))
  unfold stepE
  rw [ho]
  dsimp only
  rw [if_neg (by simp [Region.wanted, yE, hd, hv, undef])]
  exact hK
end
end Go.Proofs.YtcgagmojgjbfpaaDoor
