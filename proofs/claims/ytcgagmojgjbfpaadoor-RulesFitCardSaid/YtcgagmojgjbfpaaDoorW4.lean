/- Steps of a walk through a statement whose order is open. -/
import Derived.Test.YtcgagmojgjbfpaaDoorW3
import Derived.KernelRfl
namespace Go.Proofs.YtcgagmojgjbfpaaDoor
open Go Go.RowKit
section
variable {P : Program} {ops : Array Oper} {I : World → Prop} {N : Env → World → Prop} {ρ : Env} {w : World} {done : List Nat} {n : Nat}
def anyC (P : Program) (ops : Array Oper) (I : World → Prop) (n : Nat) (done : List Nat) (ρ : Env) (w : World) (N : Env → World → Prop) : Prop := Closed ops done → anyE P ops I n done ρ w N
theorem d_start (I : World → Prop) (n : Nat) (ordT ordG : List Nat) (hn : ops.size = n) (hT : (topoB .text ops ordT [] && coverB ops.size ordT) = true) (hG : (topoB .gc ops ordG [] && coverB ops.size ordG) = true)
    (hap : apartB ops = true) (hsel : noSelect ops = true) (h : apartB ops = true → noSelect ops = true → anyC P ops I n [] ρ { w with drawn := w.drawn + 1 } N) : drawE P ops ρ w N :=
  d_any I ordT ordG hT hG (hn ▸ h hap hsel (fun _ h => by cases h))
theorem c_draw {id : Nat} {X : Nat → Env → World → Prop} {R : Env → World → Prop} (h : drawE P ops ρ w N) : wpE P (.region id ops true) ρ w N X R := h
theorem step_quiet {r : Nat} {d : Option Tmp} {op : Op} {ty : TypeId} {p : String} {af : Array Edge} {v : Value} {w' : World} {K : Env → World → Prop} (ho : ops.toList[r]? = some ⟨d, op, ty, p, af, none⟩) (hq : qv P op ty ρ w' v) (hK : K (putE ρ d v) w') : stepE P ops r ρ w' K := by
  rw [Array.getElem?_toList] at ho
  unfold stepE
  rw [ho]
  dsimp only
  rw [if_pos (by rfl)]
  unfold opE
  rw [hq]
  exact hK
/-- taken first -/
theorem p_q (hap : apartB ops = true) (hsel : noSelect ops = true) (r : Nat) {d : Tmp} {op : Op} {ty : TypeId} {p : String} {af : Array Edge} {v : Value} (ho : ops.toList[r]? = some ⟨some d, op, ty, p, af, none⟩) (hr : readyE ops done r = true) (hI : I w)
    (hq : ∀ w', I w' → qv P op ty ρ w' v) (h : anyC P ops I n (r :: done) (up ρ d v) w N) : anyC P ops I (n + 1) done ρ w N := by
  have ho' := ho
  rw [Array.getElem?_toList] at ho'
  exact fun hcl => any_pull hap hsel ho' n hcl hr (fun w' hI' K hK => step_quiet ho (hq w' hI') hK) hI (h (hcl.cons hr))
theorem p_yes (hap : apartB ops = true) (hsel : noSelect ops = true) (r : Nat) {d : Tmp} {op : Op} {ty : TypeId} {p : String} {af : Array Edge} {v : Value} {j dj : Nat} {want b : Bool} (ho : ops.toList[r]? = some ⟨some d, op, ty, p, af, some (j, want)⟩) (hr : readyE ops done r = true) (hI : I w)
    (hd : (ops.toList[j]?).bind (·.dst) = some dj) (hv : ρ dj = .bool b) (hb : b = want)
    (hq : ∀ w', I w' → qv P op ty ρ w' v) (h : anyC P ops I n (r :: done) (up ρ d v) w N) : anyC P ops I (n + 1) done ρ w N := by
  rw [Array.getElem?_toList] at ho hd
  refine fun hcl => any_pull hap hsel ho n hcl hr (fun w' hI' K hK => ?_) hI (h (hcl.cons hr))
  unfold stepE
  rw [ho]
  dsimp only
  rw [if_pos (by simp [Region.wanted, yE, hd, hv, hb])]
  unfold opE
  rw [hq w' hI']
  exact hK
theorem p_no (hap : apartB ops = true) (hsel : noSelect ops = true) (r : Nat) {d : Option Tmp} {op : Op} {ty : TypeId} {p : String} {af : Array Edge} {j dj : Nat} {want b : Bool} (ho : ops.toList[r]? = some ⟨d, op, ty, p, af, some (j, want)⟩) (hr : readyE ops done r = true) (hI : I w)
    (hd : (ops.toList[j]?).bind (·.dst) = some dj) (hv : ρ dj = .bool b) (hb : b ≠ want)
    (h : anyC P ops I n (r :: done) (putE ρ d undef) w N) : anyC P ops I (n + 1) done ρ w N := by
  rw [Array.getElem?_toList] at ho hd
  refine fun hcl => any_pull hap hsel ho n hcl hr (fun w' hI' K hK => ?_) hI (h (hcl.cons hr))
  unfold stepE
  rw [ho]
  dsimp only
  rw [if_neg (by simp [Region.wanted, yE, hd, hv, hb])]
  exact hK
/-- the only one that may come next -/
theorem p_one (e : Nat) {o : Oper} (ho : ops.toList[e]? = some o) (hr : ((List.range ops.size).all fun i => Nat.beq i e == readyE ops done i) = true) (h : textE P ops [o] ρ w fun ρ' w' => (lastB ops e = true ∨ I w') ∧ anyC P ops I n (e :: done) ρ' w' N) : anyC P ops I (n + 1) done ρ w N := by
  rw [Array.getElem?_toList] at ho
  have hlt := (Array.getElem?_eq_some_iff.1 ho).1
  have hall : ∀ i, i < ops.size → (Nat.beq i e == readyE ops done i) = true := fun i hi => List.all_eq_true.1 hr i (List.mem_range.2 hi)
  intro hcl
  refine ⟨fun hn => ?_, fun i hi hri => ?_⟩
  · have h1 := hall e hlt
    rw [hn e hlt, Nat.beq_refl] at h1
    cases h1
  · have h1 := hall i hi
    rw [hri] at h1
    have : i = e := Nat.eq_of_beq_eq_true (by simpa using h1)
    subst this
    refine stepE_mono (K := fun ρ' w' => (lastB ops i = true ∨ I w') ∧ anyC P ops I n (i :: done) ρ' w' N) ?_ (fun ρ' w' hk => ⟨hk.1, hk.2 (hcl.cons hri)⟩)
    unfold stepE
    rw [ho]
    exact h
theorem p_end (hn : ((List.range ops.size).all fun i => !readyE ops done i) = true) (h : N ρ w) : anyC P ops I 0 done ρ w N :=
  fun _ => ⟨fun i hi => by simpa using List.all_eq_true.1 hn i (List.mem_range.2 hi), h⟩
theorem p_case {b : Bool} (s : Nat) (_hv : ρ s = .bool b) (h1 : b = true → anyC P ops I n done ρ w N) (h2 : b = false → anyC P ops I n done ρ w N) : anyC P ops I n done ρ w N := by
  cases b
  · exact h2 rfl
  · exact h1 rfl
/-- an element's address -/
theorem p_index (hap : apartB ops = true) (hsel : noSelect ops = true) (r : Nat) {d : Tmp} {t e : TypeId} {x i : Operand} {ty : TypeId} {p : String} {af : Array Edge} {A : Option Addr} {len c size : Nat} {k : IntKind} {m : Int} {f : Nat → List Value}
    (ho : ops.toList[r]? = some ⟨some d, .indexAddr t x i, ty, p, af, none⟩) (hr : readyE ops done r = true) (hI : I w) (ht : ∀ w, (underlying t).run P w = .ok (.slice e) w) (hz : ∀ w, (sizeOf e).run P w = .ok size w)
    (hrd : ∀ w', I w' → Rd w' size A len f) (hx : ev ρ x = .slice A len c) (hi : ev ρ i = .int k m) (hb : 0 ≤ m ∧ m < len)
    (h : ∀ ad : Addr, (f m.toNat).length = size → (∀ w', I w' → ∀ j v, (f m.toNat)[j]? = some v → w'.cell? ((ad.add (m.toNat * size)).add j) = some v) → anyC P ops I n (r :: done) (up ρ d (.pointer (some (ad.add (m.toNat * size))))) w N) : anyC P ops I (n + 1) done ρ w N := by
  obtain ⟨ad, rfl, hl, hc⟩ := (hrd w hI).at_ (i := m.toNat) (by omega)
  refine p_q hap hsel r ho hr hI (fun w' _ => q_indexAddr ht hz hx hi hb) (h ad hl fun w' hI' => ?_)
  obtain ⟨ad', h1, _, hc'⟩ := (hrd w' hI').at_ (i := m.toNat) (by omega)
  injection h1 with h1
  subst h1
  exact hc'
theorem p_index_yes (hap : apartB ops = true) (hsel : noSelect ops = true) (r : Nat) {d : Tmp} {t e : TypeId} {x i : Operand} {ty : TypeId} {p : String} {af : Array Edge} {A : Option Addr} {len c size : Nat} {k : IntKind} {m : Int} {f : Nat → List Value} {j dj : Nat} {want b : Bool}
    (ho : ops.toList[r]? = some ⟨some d, .indexAddr t x i, ty, p, af, some (j, want)⟩) (hr : readyE ops done r = true) (hI : I w) (hd : (ops.toList[j]?).bind (·.dst) = some dj) (hv : ρ dj = .bool b) (hbw : b = want)
    (ht : ∀ w, (underlying t).run P w = .ok (.slice e) w) (hz : ∀ w, (sizeOf e).run P w = .ok size w)
    (hrd : ∀ w', I w' → Rd w' size A len f) (hx : ev ρ x = .slice A len c) (hi : ev ρ i = .int k m) (hb : 0 ≤ m ∧ m < len)
    (h : ∀ ad : Addr, (f m.toNat).length = size → (∀ w', I w' → ∀ j v, (f m.toNat)[j]? = some v → w'.cell? ((ad.add (m.toNat * size)).add j) = some v) → anyC P ops I n (r :: done) (up ρ d (.pointer (some (ad.add (m.toNat * size))))) w N) : anyC P ops I (n + 1) done ρ w N := by
  obtain ⟨ad, rfl, hl, hc⟩ := (hrd w hI).at_ (i := m.toNat) (by omega)
  refine p_yes hap hsel r ho hr hI hd hv hbw (fun w' _ => q_indexAddr ht hz hx hi hb) (h ad hl fun w' hI' => ?_)
  obtain ⟨ad', h1, _, hc'⟩ := (hrd w' hI').at_ (i := m.toNat) (by omega)
  injection h1 with h1
  subst h1
  exact hc'
theorem St.draw {W : World} {L : List Asn} (h : St W w L) : St W { w with drawn := w.drawn + 1 } L := h.drawn _
theorem d_quiet {W : World} {L : List Asn} (n : Nat) (ordT ordG : List Nat) (hS : St W w L) (hn : ops.size = n) (hT : (topoB .text ops ordT [] && coverB ops.size ordT) = true) (hG : (topoB .gc ops ordG [] && coverB ops.size ordG) = true)
    (hap : apartB ops = true) (hsel : noSelect ops = true) (h : apartB ops = true → noSelect ops = true → ∀ w', St W w' L → anyC P ops (fun w' => St W w' L) n [] ρ w' N) : drawE P ops ρ w N :=
  d_start _ n ordT ordG hn hT hG hap hsel fun a b => h a b _ hS.draw
theorem d_keep {W : World} {L : List Asn} (K : Asn) (n : Nat) (ordT ordG : List Nat) (hS : St W w L) (hn : ops.size = n) (hT : (topoB .text ops ordT [] && coverB ops.size ordT) = true) (hG : (topoB .gc ops ordG [] && coverB ops.size ordG) = true)
    (hap : apartB ops = true) (hsel : noSelect ops = true) (h : apartB ops = true → noSelect ops = true → ∀ w', St W w' L → anyC P ops (fun w' => ∃ L', St W w' (K :: L')) n [] ρ w' N) : drawE P ops ρ w N :=
  d_start _ n ordT ordG hn hT hG hap hsel fun a b => h a b _ hS.draw
end
section
variable {P : Program} {ops : Array Oper} {I : World → Prop} {all : Array Oper} {rest : List Oper} {N : Env → World → Prop} {ρ : Env} {w : World} {done : List Nat} {n : Nat}
theorem t_index_nat {t e : TypeId} {x i : Operand} {ty : TypeId} {d : Tmp} {p : String} {af : Array Edge} {A : Option Addr} {len c size : Nat} {k : IntKind} {j : Nat} {f : Nat → List Value} (ht : ∀ w, (underlying t).run P w = .ok (.slice e) w) (hz : ∀ w, (sizeOf e).run P w = .ok size w)
    (hr : Rd w size A len f) (hx : ev ρ x = .slice A len c) (hi : ev ρ i = .int k (j : Int)) (hb : j < len)
    (hN : ∀ ad : Addr, (f j).length = size → (∀ u v, (f j)[u]? = some v → w.cell? ((ad.add (j * size)).add u) = some v) → textE P all rest (up ρ d (.pointer (some (ad.add (j * size))))) w N) :
    textE P all (⟨some d, .indexAddr t x i, ty, p, af, none⟩ :: rest) ρ w N := t_index ht hz hr hx hi (by omega) hN
end
theorem allOne_bv (bs : List UInt8) : allOne (bs.map bv) = true := by
  unfold allOne
  rw [List.all_eq_true]
  intro v hv
  obtain ⟨b, _, rfl⟩ := List.mem_map.1 hv
  rfl
theorem allOne_ints (k : IntKind) (ns : List Int) : allOne (ns.map (Value.int k)) = true := by
  unfold allOne
  rw [List.all_eq_true]
  intro v hv
  obtain ⟨b, _, rfl⟩ := List.mem_map.1 hv
  rfl
end Go.Proofs.YtcgagmojgjbfpaaDoor
