/- Steps of a walk through a statement whose order is open. -/
import Derived.Test.YtcgagmojgjbfpaaDoorW3
import Derived.KernelRfl
namespace Go.Proofs.YtcgagmojgjbfpaaDoor
open Go Go.RowKit
section
variable {P : Program} {ops : Array Oper} {I : World → Prop} {N : Env → World → Prop} {ρ : Env} {w : World} {done : List Nat} {n : Nat}
def anyC (P : Program) (ops : Array Oper) (I : World → Prop) (n : Nat) (done : List Nat) (ρ : Env) (w : World) (N : Env → World → Prop) : Prop := Closed ops done → anyE P ops I n done ρ w N
theorem d_start (I : World → Prop) (n : Nat) (ordT ordG : List Nat) (hn : ops.size = n) (hT : (topoB .text ops ordT [] && coverB ops.size ordT) = true) (hG : (topoB .gc ops ordG [] && coverB ops.size ordG) = true)
    (hap : apartB ops = true) (hsel : noSelect ops = true) (h : apartB ops = true → noSelect ops = true → anyC P ops I n [] ρ { w with drawn := w.drawn + 1 } N) : drawE P ops ρ w N :=
  d_any I ordT ordG hT hG (hn ▸ h hap hsel (fun _ h => by cases h))
theorem c_draw {id : Nat} {X : Nat → Env → World → Prop} {R : Env → World → Prop} (h : drawE P ops ρ w N) : wpE P (.region id ops true) ρ w N X R := h
theorem step_quiet {r : Nat} {d : Option Tmp} {op : Op} {ty : TypeId} {p : String} {af : Array Edge} {v : Value} {w' : World} {K : Env → World → Prop} (ho : ops.toList[r]? = some ⟨d, op, ty, p, af, none⟩) (hq : qv P op ty ρ w' v) (hK : K (putE ρ d v) w') : stepE P ops r ρ w' K := by
  rw [Array.getElem?_toList] at ho
  unfold stepE
  rw [ho]
  dsimp only
  rw [if_pos (by rfl)]
  unfold opE
  rw [hq]
  exact hK
/-- taken first -/
theorem p_q (hap : apartB ops = true) (hsel : noSelect ops = true) (r : Nat) {d : Tmp} {op : Op} {ty : TypeId} {p : String} {af : Array Edge} {v : Value} (ho : ops.toList[r]? = some ⟨some d, op, ty, p, af, none⟩) (hr : readyE ops done r = true) (hI : I w)
    (hq : ∀ w', I w' → qv P op ty ρ w' v) (h : anyC P ops I n (r :: done) (up ρ d v) w N) : anyC P ops I (n + 1) done ρ w N := by
  have ho' := ho
  rw [Array.getElem?_toList] at ho'
  exact fun hcl => any_pull hap hsel ho' n hcl hr (fun w' hI' K hK => step_quiet ho (hq w' hI') hK) hI (h (hcl.cons hr))
theorem p_yes (hap : apartB ops = true) (hsel : noSelect ops = true) (r : Nat) {d : Tmp} {op : Op} {ty : TypeId} {p : String} {af : Array Edge} {v : Value} {j dj : Nat} {want b : Bool} (ho : ops.toList[r]? = some ⟨some d, op, ty, p, af, some (j, want)⟩) (hr : readyE ops done r = true) (hI : I w)
    (hd : (ops.toList[j]?).bind (·.dst) = some dj) (hv : ρ dj = .bool b) (hb : b = want)
    (hq : ∀ w', I w' → qv P op ty ρ w' v) (h : anyC P ops I n (r :: done) (up ρ d v) w N) : anyC P ops I (n + 1) done ρ w N := by
  rw [Array.getElem?_toList] at ho hd
  refine fun hcl => any_pull hap hsel ho n hcl hr (fun w' hI' K hK => ?_) hI (h (hcl.cons hr))
  unfold stepE
  rw [ho]
  dsimp only
  rw [if_pos (by simp [Region.wanted, yE, hd, hv, hb])]
  unfold opE
  rw [hq w' hI']
  exact hK
theorem p_no (hap : apartB ops = true) (hsel : noSelect ops = true) (r : Nat) {d : Option Tmp} {op : Op} {ty : TypeId} {p : String} {af : Array Edge} {j dj : Nat} {want b : Bool} (ho : ops.toList[r]? = some ⟨d, op, ty, p, af, some (j, want)⟩) (hr : readyE ops done r = true) (hI : I w)
    (hd : (ops.toList[j]?).bind (·.dst) = some dj) (hv : ρ dj = .bool b) (hb : b ≠ want)
    (h : anyC P ops I n (r :: done) (putE ρ d undef) w N) : anyC P ops I (n + 1) done ρ w N := by
  rw [Array.getElem?_toList] at ho hd
  refine fun hcl => any_pull hap hsel ho n hcl hr (fun w' hI' K hK => ?_) hI (h (hcl.cons hr))
  unfold stepE
  rw [ho]
  dsimp only
  rw [if_neg (by simp [Region.wanted, yE, hd, hv, hb])]
  exact hK
theorem p_end (hn : ((List.range ops.size).all fun i => !readyE ops done i) = true) (h : N ρ w) : anyC P ops I 0 done ρ w N :=
  fun _ => ⟨fun i hi => by simpa using List.all_eq_true.1 hn i (List.mem_range.2 hi), h⟩
theorem p_case {b : Bool} (s : Nat) (_hv : ρ s = .bool b) (h1 : b = true → anyC P ops I n done ρ w N) (h2 : b = false → anyC P ops I n done ρ w N) : anyC P ops I n done ρ w N := by
  cases b
  · exact h2 rfl
  · exact h1 rfl
theorem St.draw {W : World} {L : List Asn} (h : St W w L) : St W { w with drawn := w.drawn + 1 } L := h.drawn _
theorem d_keep2 {W : World} {L : List Asn} (K1 K2 : Asn) (n : Nat) (ordT ordG : List Nat) (hS : St W w L) (hn : ops.size = n) (hT : (topoB .text ops ordT [] && coverB ops.size ordT) = true) (hG : (topoB .gc ops ordG [] && coverB ops.size ordG) = true)
    (hap : apartB ops = true) (hsel : noSelect ops = true) (h : apartB ops = true → noSelect ops = true → ∀ w', St W w' L → anyC P ops (fun w' => ∃ L', St W w' (K1 :: K2 :: L')) n [] ρ w' N) : drawE P ops ρ w N :=
  d_start _ n ordT ordG hn hT hG hap hsel fun a b => h a b _ hS.draw
end
section
variable {P : Program} {ops : Array Oper} {I : World → Prop} {all : Array Oper} {rest : List Oper} {N : Env → World → Prop} {ρ : Env} {w : World} {done : List Nat} {n : Nat}
theorem t_index_nat {t e : TypeId} {x i : Operand} {ty : TypeId} {d : Tmp} {p : String} {af : Array Edge} {A : Option Addr} {len c size : Nat} {k : IntKind} {j : Nat} {f : Nat → List Value} (ht : ∀ w, (underlying t).run P w = .ok (.slice e) w) (hz : ∀ w, (sizeOf e).run P w = .ok size w)
    (hr : Rd w size A len f) (hx : ev ρ x = .slice A len c) (hi : ev ρ i = .int k (j : Int)) (hb : j < len)
    (hN : ∀ ad : Addr, (f j).length = size → (∀ u v, (f j)[u]? = some v → w.cell? ((ad.add (j * size)).add u) = some v) → textE P all rest (up ρ d (.pointer (some (ad.add (j * size))))) w N) :
    textE P all (⟨some d, .indexAddr t x i, ty, p, af, none⟩ :: rest) ρ w N := t_index ht hz hr hx hi (by omega) hN
end
theorem allOne_bv (bs : List UInt8) : allOne (bs.map bv) = true := by
  unfold allOne
  rw [List.all_eq_true]
  intro v hv
  obtain ⟨b, _, rfl⟩ := List.mem_map.1 hv
  rfl
theorem allOne_ints (k : IntKind) (ns : List Int) : allOne (ns.map (Value.int k)) = true := by
  unfold allOne
  rw [List.all_eq_true]
  intro v hv
  obtain ⟨b, _, rfl⟩ := List.mem_map.1 hv
  rfl
end Go.Proofs.YtcgagmojgjbfpaaDoor
