/- Rows of bytes whose room may be cut off; many pieces as one. -/
import Derived.Test.YtcgagmojgjbfpaaDoorQ
import Derived.Test.YtcgagmojgjbfpaaDoorCw
namespace Go.Proofs.YtcgagmojgjbfpaaDoor
open Go Go.RowKit Go.Lib
/-- many pieces as one -/
def packA (L : List Asn) : Asn where
  holds w F := Sep w L F
  loc w w' F h hk := Sep.loc L F h hk
  lt w F h := Sep.lt L F h
theorem Sep.split {w : World} {M : List Asn} : ∀ {L : List Asn} {F : List Nat}, Sep w (L ++ M) F → ∃ F1 F2, F = F1 ++ F2 ∧ Sep w L F1 ∧ Sep w M F2 ∧ ∀ k ∈ F1, k ∉ F2
  | [], F, h => ⟨[], F, rfl, rfl, h, fun _ h => by cases h⟩
  | A :: L, F, ⟨F1, F2, e, h1, h2, hd⟩ => by
    obtain ⟨G1, G2, rfl, g1, g2, gd⟩ := Sep.split h2
    refine ⟨F1 ++ G1, G2, by rw [e, List.append_assoc], ⟨F1, G1, rfl, h1, g1, fun k hk hk2 => hd k hk (List.mem_append_left _ hk2)⟩, g2, fun k hk hk2 => ?_⟩
    rcases List.mem_append.1 hk with hh | hh
    · exact hd k hh (List.mem_append_right _ hk2)
    · exact gd k hh hk2
theorem St.unpack {W w : World} {L R : List Asn} (h : St W w (packA L :: R)) : St W w (L ++ R) := by
  obtain ⟨hb, F, ⟨F1, F2, rfl, h1, h2, hd⟩, hF⟩ := h
  exact ⟨hb, F1 ++ F2, Sep.append h1 h2 hd, hF⟩
section
variable {W w : World} {L R : List Asn} {t : TypeId} {A : Option Addr} {c : Nat} {bs : List UInt8}
end
section
variable {P : Program} {ρ : Env} {w : World} {ty : TypeId}
end
section
variable {P : Program} {all : Array Oper} {ρ : Env} {W w : World} {L R : List Asn} {N : Env → World → Prop} {rest : List Oper}
end
section
variable {P : Program} {all : Array Oper} {ρ : Env} {w : World} {N : Env → World → Prop} {rest : List Oper}
theorem q_makeFunc_b {ty : TypeId} {f : Fn} {a b : Array Operand} {al bl : List Value} (ha : a.toList.map (ev ρ) = al) (hb : b.toList.map (ev ρ) = bl) : qv P (.makeFunc f a b) ty ρ w (.func f al.toArray bl.toArray) := by
  intro _ _ _ _
  have e1 : a.map (ev ρ) = al.toArray := by rw [← ha, ← Array.toList_map, Array.toArray_toList]
  have e2 : b.map (ev ρ) = bl.toArray := by rw [← hb, ← Array.toList_map, Array.toArray_toList]
  simp [execOp, Instr.makeFunc, e1, e2]
theorem t_callv_b {d : Option Tmp} {x : Operand} {f : FuncId} {first cap : Array Value} {args : Array Operand} {ats : Array TypeId} {ty : TypeId} {p : String} {af : Array Edge} {R : Ending → World → Prop} {al : List Value}
    (hf : ∀ (us : Array Value) w, (callFunc f us).run P w = .ok (.enter f us) w) (hx : ev ρ x = .func (.func f) first cap) (hc : Calls P f al.toArray w R) (has : first.toList ++ args.toList.map (ev ρ) ++ cap.toList = al)
    (h : ∀ e w', R e w' → ∃ v, e = .returned v ∧ textE P all rest (putE ρ d v) w' N) : textE P all (⟨d, .call ⟨.value x, args, ats⟩, ty, p, af, none⟩ :: rest) ρ w N := by
  refine t_op ?_
  unfold opE
  have e : (execOp (ev ρ) ⟨d, .call ⟨.value x, args, ats⟩, ty, p, af, none⟩).run P w = .ok (.enter f al.toArray) w := by
    have e1 : first ++ args.map (ev ρ) ++ cap = al.toArray := by rw [← has, ← Array.toList_map, ← Array.toList_append, ← Array.toList_append, Array.toArray_toList]
    simp [execOp, resolve, Deferred.ofValue, hx, invoke, hf, e1]
  rw [e]
  exact hc.mono fun e w' hr => h e w' hr
end
section
variable {P : Program} {all : Array Oper} {ρ : Env} {w : World} {N : Env → World → Prop} {rest : List Oper}
theorem t_nu {d : Option Tmp} {op : Op} {ty : TypeId} {p : String} {af : Array Edge} {j dj : Nat} {want : Bool} (hd : (all[j]?).bind (·.dst) = some dj) (hv : ρ dj = undef)
    (h : textE P all rest (putE ρ d undef) w N) : textE P all (⟨d, op, ty, p, af, some (j, want)⟩ :: rest) ρ w N := by
  unfold textE
  rw [if_neg (by simp [Region.wanted, yE, hd, hv, undef])]
  exact h
end
end Go.Proofs.YtcgagmojgjbfpaaDoor
