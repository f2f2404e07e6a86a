/- make and copy: a row of zeros; bytes copied into a row of the call's own. -/
import Derived.Test.YtmgobaojioaioaaQ
import Derived.Laws.MakeOwn
namespace Go.Proofs.Ytmgobaojioaioaa
open Go Go.RowKit
section
variable {P : Program} {all : Array Oper} {ρ : Env} {W w : World} {L R : List Asn} {N : Env → World → Prop} {rest : List Oper}
end
section
variable {P : Program} {ρ : Env} {w : World} {ty : TypeId}
theorem q_build_arr {t e : TypeId} {parts : Array (Nat × Operand)} {len size : Nat} {zs : List Value} (qs : List (Nat × Nat)) (cs : List Value) (hz : ∀ w, (zeroValue t).run P w = .ok (.agg zs.toArray) w) (hu : ∀ w, (underlying t).run P w = .ok (.array len e) w) (hs : ∀ w, (sizeOf e).run P w = .ok size w)
    (hq : (parts.toList.all fun q => match qs[q.1]? with | some r => Nat.beq r.1 (q.1 * size) && Nat.beq r.2 size | none => false) = true) (hok : fillOk qs zs.length (parts.toList.map fun q => (q.1, ev ρ q.2)) = true) (hcs : fillL qs zs (parts.toList.map fun q => (q.1, ev ρ q.2)) = cs) : qv P (.build t parts) ty ρ w (.agg cs.toArray) := by
  refine q_of _ (fun _ _ _ _ => rfl) ?_
  have hp : (parts.map fun (i, x) => (i, ev ρ x)).toList = parts.toList.map fun q => (q.1, ev ρ q.2) := by simp
  have hf : Instr.fill (fun i => some (i * size, size)) (zs.toArray) (parts.toList.map fun q => (q.1, ev ρ q.2)) = some cs.toArray := by
    rw [← hcs]
    refine fill_eq qs _ (fun p hp => ?_) zs hok
    obtain ⟨q, hq1, rfl⟩ := List.mem_map.1 hp
    have h1 := List.all_eq_true.1 hq q hq1
    cases h2 : qs[q.1]? with
    | none => rw [h2] at h1; cases h1
    | some r =>
      rw [h2] at h1
      simp only [Bool.and_eq_true] at h1
      have e1 := Nat.eq_of_beq_eq_true h1.1
      have e2 := Nat.eq_of_beq_eq_true h1.2
      show some (q.1 * size, size) = some r
      rw [← e1, ← e2]
  simp only [Instr.build, Sem.run_bind, hz, Result.andThen_ok, hu, hs, hp]
  simp only [Value.cells]
  rw [hf]
  rfl
theorem q_index_arr {t e : TypeId} {x i : Operand} {cs : List Value} {len : Nat} {k : IntKind} {j : Nat} {v : Value} (ht : ∀ w, (underlying t).run P w = .ok (.array len e) w) (hz : ∀ w, (sizeOf e).run P w = .ok 1 w) (hA : ∀ w, (isAgg e).run P w = .ok false w) (hx : ev ρ x = .agg cs.toArray) (hi : ev ρ i = .int k (j : Int)) (hb : j < len) (hv : cs[j]? = some v) : qv P (.index t x i) ty ρ w v := by
  refine q_of _ (fun _ _ _ _ => rfl) ?_
  have h0 : (0 : Int) ≤ (j : Int) ∧ (j : Int) < (len : Int) := by omega
  simp [Instr.index, hx, hi, asIntOf, ht, hb, part, hA, hz, hv]
end
section
variable {P : Program} {ops : Array Oper} {I : World → Prop} {N : Env → World → Prop} {ρ : Env} {w : World} {done : List Nat} {n : Nat}
/-- left out: its guard's own operation was left out -/
theorem p_nu (hap : apartB ops = true) (hsel : noSelect ops = true) (r : Nat) {d : Option Tmp} {op : Op} {ty : TypeId} {p : String} {af : Array Edge} {j dj : Nat} {want : Bool} (ho : ops.toList[r]? = some ⟨d, op, ty, p, af, some (j, want)⟩) (hr : readyE ops done r = true) (hI : I w)
    (hd : (ops.toList[j]?).bind (·.dst) = some dj) (hv : ρ dj = undef)
    (h : anyC P ops I n (r :: done) (putE ρ d undef) w N) : anyC P ops I (n + 1) done ρ w N := by
  rw [Array.getElem?_toList] at ho hd
  refine fun hcl => any_pull hap hsel ho n hcl hr (fun w' hI' K hK => ?_) hI (h (hcl.cons hr))
  unfold stepE
  rw [ho]
  dsimp only
  rw [if_neg (by simp [Region.wanted, yE, hd, hv, undef])]
  exact hK
end
end Go.Proofs.Ytmgobaojioaioaa
