/- Rows of bytes whose room may be cut off; many pieces as one. -/
import Derived.Test.YtlppgpidakfnlaaQb
namespace Go.Proofs.Ytlppgpidakfnlaa
open Go Go.RowKit Go.Lib
theorem Sep.perm {w : World} {L M : List Asn} (p : L.Perm M) : ∀ F, Sep w L F → ∃ G, Sep w M G ∧ ∀ k, k ∈ G ↔ k ∈ F := by
  induction p with
  | nil => exact fun F h => ⟨F, h, fun _ => Iff.rfl⟩
  | cons A p ih =>
    rintro F ⟨F1, F2, rfl, h1, h2, hd⟩
    obtain ⟨G, hG, hm⟩ := ih F2 h2
    exact ⟨F1 ++ G, ⟨F1, G, rfl, h1, hG, fun k hk hk2 => hd k hk ((hm k).1 hk2)⟩, fun k => by simp only [List.mem_append, hm k]⟩
  | swap A B L => exact Sep.pick (.there (.here _ _))
  | trans p q ih1 ih2 =>
    intro F h
    obtain ⟨G, hG, hm⟩ := ih1 F h
    obtain ⟨H, hH, hm2⟩ := ih2 G hG
    exact ⟨H, hH, fun k => (hm2 k).trans (hm k)⟩
theorem St.perm {W w : World} {L M : List Asn} (h : St W w L) (p : L.Perm M) : St W w M := by
  obtain ⟨hb, F, hs, hF⟩ := h
  obtain ⟨G, hG, hm⟩ := Sep.perm p F hs
  exact ⟨hb, G, hG, fun k hk => hF k ((hm k).1 hk)⟩
/-- many pieces as one -/
def packA (L : List Asn) : Asn where
  holds w F := Sep w L F
  loc w w' F h hk := Sep.loc L F h hk
  lt w F h := Sep.lt L F h
theorem Sep.split {w : World} {M : List Asn} : ∀ {L : List Asn} {F : List Nat}, Sep w (L ++ M) F → ∃ F1 F2, F = F1 ++ F2 ∧ Sep w L F1 ∧ Sep w M F2 ∧ ∀ k ∈ F1, k ∉ F2
  | [], F, h => ⟨[], F, rfl, rfl, h, fun _ h => by cases h⟩
  | A :: L, F, ⟨F1, F2, e, h1, h2, hd⟩ => by
    obtain ⟨G1, G2, rfl, g1, g2, gd⟩ := Sep.split h2
    refine ⟨F1 ++ G1, G2, by rw [e, List.append_assoc], ⟨F1, G1, rfl, h1, g1, fun k hk hk2 => hd k hk (List.mem_append_left _ hk2)⟩, g2, fun k hk hk2 => ?_⟩
    rcases List.mem_append.1 hk with hh | hh
    · exact hd k hh (List.mem_append_right _ hk2)
    · exact gd k hh hk2
theorem St.unpack {W w : World} {L R : List Asn} (h : St W w (packA L :: R)) : St W w (L ++ R) := by
  obtain ⟨hb, F, ⟨F1, F2, rfl, h1, h2, hd⟩, hF⟩ := h
  exact ⟨hb, F1 ++ F2, Sep.append h1 h2 hd, hF⟩
theorem St.pack {W w : World} {L R : List Asn} (h : St W w (L ++ R)) : St W w (packA L :: R) := by
  obtain ⟨hb, F, hs, hF⟩ := h
  obtain ⟨F1, F2, rfl, h1, h2, hd⟩ := Sep.split hs
  exact ⟨hb, F1 ++ F2, ⟨F1, F2, rfl, h1, h2, hd⟩, hF⟩
/-- a slice of bytes of the call's own: its room is its array's, or ends where it ends -/
def rowC (t : TypeId) (A : Option Addr) (c : Nat) (bs : List UInt8) : Asn where
  holds w F := F = (A.map (·.block)).toList ∧ ((A = none ∧ bs = [] ∧ c = 0) ∨ ∃ g cur, A = some ⟨g, 0, none⟩ ∧ w.heap[g]? = some (.cells cur t (0, 0)) ∧ bs.length ≤ c ∧ c ≤ maxLen ∧ c ≤ cur.size ∧ cur.toList.take bs.length = bs.map bv ∧ (c = bs.length ∨ cur.size = c))
  loc w w' F h hk := by
    refine ⟨h.1, ?_⟩
    rcases h.2 with hh | ⟨g, cur, hA, hh, r⟩
    · exact .inl hh
    · exact .inr ⟨g, cur, hA, (hk g (by rw [h.1, hA]; simp)).trans hh, r⟩
  lt w F h k hk := by
    rcases h.2 with ⟨hA, _⟩ | ⟨g, cur, hA, hh, r⟩
    · rw [h.1, hA] at hk; cases hk
    · rw [h.1, hA] at hk
      have hkg : k = g := List.mem_singleton.1 hk
      rw [hkg]
      rcases Nat.lt_or_ge g w.heap.size with hlt | hge
      · exact hlt
      · rw [Array.getElem?_eq_none hge] at hh; cases hh
section
variable {W w : World} {L R : List Asn} {t : TypeId} {A : Option Addr} {c : Nat} {bs : List UInt8}
theorem own_C {n : Nat} {w : World} {F : List Nat} (h : (rowA t 1 A n c (bs.map bv)).holds w F) (hn : n = bs.length) : (rowC t A c bs).holds w F := by
  subst hn
  refine ⟨h.1, ?_⟩
  rcases h.2.2 with ⟨he, h0⟩ | ⟨g, cap, cur, hv, _, hg, hnc, hcm, hcs, htk⟩
  · injection he with hA _ hc
    exact .inl ⟨hA, List.eq_nil_of_length_eq_zero h0, hc⟩
  · injection hv with hA _ hc
    subst hc
    rw [Nat.mul_one] at hcs htk
    exact .inr ⟨g, cur, hA, hg, hnc, hcm, by omega, htk, .inr hcs⟩
theorem St.toC {n : Nat} (h : St W w (rowA t 1 A n c (bs.map bv) :: R)) (hn : n = bs.length) : St W w (rowC t A c bs :: R) :=
  h.upd fun F hF => ⟨Fr.refl _ _, F, own_C hF hn, fun k hk => .inl hk⟩
theorem St.getC (h : St W w L) (p : Pick L (Go.Proofs.Ytlppgpidakfnlaa.rowC t A c bs) R) : (A = none ∧ bs = [] ∧ c = 0) ∨ ∃ g cur, A = some ⟨g, 0, none⟩ ∧ w.heap[g]? = some (.cells cur t (0, 0)) ∧ bs.length ≤ c ∧ c ≤ maxLen ∧ c ≤ cur.size ∧ cur.toList.take bs.length = bs.map bv ∧ (c = bs.length ∨ cur.size = c) := by
  obtain ⟨F, hx, _⟩ := h.get p; exact hx.2
theorem St.rowC_le (h : St W w L) (p : Pick L (Go.Proofs.Ytlppgpidakfnlaa.rowC t A c bs) R) : bs.length ≤ c ∧ c ≤ maxLen := by
  rcases h.getC p with ⟨_, rfl, rfl⟩ | ⟨_, _, _, _, h1, h2, _⟩
  · exact ⟨Nat.le_refl _, Nat.zero_le _⟩
  · exact ⟨h1, h2⟩
theorem St.rowC_rd (h : St W w L) (p : Pick L (Go.Proofs.Ytlppgpidakfnlaa.rowC t A c bs) R) : RdB w A bs := fun hn => by
  rcases h.getC p with ⟨_, rfl, _⟩ | ⟨g, cur, rfl, hg, h1, h2, h3, h4, h5⟩
  · simp at hn
  · refine ⟨_, rfl, ?_, fun i hi => ⟨rfl, fun j v hv => ?_⟩⟩
    · rcases Nat.lt_or_ge g w.heap.size with hlt | hge
      · exact hlt
      · rw [Array.getElem?_eq_none hge] at hg; cases hg
    · have hj : j = 0 := by
        rcases Nat.eq_zero_or_pos j with h | h
        · exact h
        · rw [bsf, List.getElem?_eq_none (by simp only [List.length_cons, List.length_nil]; omega)] at hv; cases hv
      subst hj
      have hv' : bv (bs.getD i 0) = v := by simpa [bsf] using hv
      have e1 : (((⟨g, 0, none⟩ : Addr).add (i * 1)).add 0) = ⟨g, i, none⟩ := by rw [addr_add, addr_add]; congr 1; omega
      rw [e1, cell_of_row w g i cur t (0, 0) hg]
      have h6 := congrArg (fun l => l[i]?) h4
      simp only [List.getElem?_take, hi, if_true, List.getElem?_map, List.getElem?_eq_getElem hi, Option.map_some] at h6
      rw [← hv', List.getD_eq_getElem?_getD, List.getElem?_eq_getElem hi]
      simpa using h6
theorem St.rowC_nil (h : St W w R) (t : TypeId) : St W w (Go.Proofs.Ytlppgpidakfnlaa.rowC t none 0 [] :: R) :=
  h.add (Fr.refl _ _) (F := []) ⟨rfl, .inl ⟨rfl, rfl, rfl⟩⟩ (fun k hk => by cases hk)
theorem St.rowC_cut (h : St W w (Go.Proofs.Ytlppgpidakfnlaa.rowC t A c bs :: R)) {m : Nat} (hm : m ≤ bs.length) : St W w (Go.Proofs.Ytlppgpidakfnlaa.rowC t A m (bs.take m) :: R) :=
  h.upd fun F hF => by
    refine ⟨Fr.refl _ _, F, ⟨hF.1, ?_⟩, fun k hk => .inl hk⟩
    have hl : (bs.take m).length = m := by rw [List.length_take]; omega
    rcases hF.2 with ⟨h1, rfl, h3⟩ | ⟨g, cur, hA, hg, h1, h2, h3, h4, h5⟩
    · exact .inl ⟨h1, by simp, by simpa using hm⟩
    · refine .inr ⟨g, cur, hA, hg, by omega, by omega, by omega, ?_, .inl hl.symm⟩
      rw [hl, List.map_take, ← h4, List.take_take, Nat.min_eq_left hm]
theorem St.rowC_add (h : St W w L) (p : Pick L (Go.Proofs.Ytlppgpidakfnlaa.rowC t A c bs) R) : A.map (·.add 0) = A := by
  rcases h.getC p with ⟨rfl, _⟩ | ⟨g, cur, rfl, _⟩
  · rfl
  · rw [Option.map_some, addr_add]
end
section
variable {P : Program} {ρ : Env} {w : World} {ty : TypeId}
theorem q_slice3 {t e : TypeId} {x o : Operand} {A : Option Addr} {len cap size : Nat} {k : IntKind} {n : Int} (ht : ∀ w, (underlying t).run P w = .ok (.slice e) w) (hz : ∀ w, (sizeOf e).run P w = .ok size w)
    (hx : ev ρ x = .slice A len cap) (ho : ev ρ o = .int k n) {o' : Operand} (ho' : ev ρ o' = .int k n) (h0 : 0 ≤ n) (h1 : n ≤ cap) (hA : A.map (·.add 0) = A) :
    qv P (.slice t x none (some o) (some o')) ty ρ w (.slice A n.toNat n.toNat) := by
  refine q_of _ (fun _ _ _ _ => rfl) ?_
  have e1 : (Instr.sliceBounds true len cap none (some (ev ρ o)) (some (ev ρ o'))).run P w = .ok (0, n.toNat, n.toNat) w := by
    unfold Instr.sliceBounds
    simp [Instr.sliceBound, ho, ho', asIntOf, h0, h1]
    omega
  have e2 : (if n.toNat = 0 then A else A.map (·.add (0 * size))) = A := by
    split
    · rfl
    · rw [Nat.zero_mul]; exact hA
  simp only [Instr.sliceAt, Sem.run_bind, ht, Result.andThen_ok, Instr.slice, hx, Option.map_none, Option.map_some, e1, hz]
  simp only [Sem.run_pure, Nat.sub_zero, e2]
end
section
variable {P : Program} {all : Array Oper} {ρ : Env} {W w : World} {L R : List Asn} {N : Env → World → Prop} {rest : List Oper}
theorem run_append_C {t e : TypeId} {ty : TypeId} {i : TypeInfo} (ht : P.underlying t = some (.slice e)) (hi : P.info? e = some i) (hz : i.zero = some (.int .u8 0)) (hsize : i.size = 1) (hby : i.bytes = 1)
    {A B : Option Addr} {c cm : Nat} {bs ys : List UInt8} (hS : St W w L) (pk : Pick L (rowC e A c bs) R) (hr : RdB w B ys) (hbytes : bs.length + ys.length ≤ 140737488355328) :
    ∃ A' c' w', (Builtin.append_ #[t, t] ty #[.slice A bs.length c, .slice B ys.length cm]).run P w = .ok (.slice A' (bs.length + ys.length) c') w' ∧ St W w' (rowC e A' c' (bs ++ ys) :: R) := by
  have own : St W w (rowA e 1 A bs.length c (bs.map bv) :: R) → ∃ A' c' w', (Builtin.append_ #[t, t] ty #[.slice A bs.length c, .slice B ys.length cm]).run P w = .ok (.slice A' (bs.length + ys.length) c') w' ∧ St W w' (rowC e A' c' (bs ++ ys) :: R) := fun h => by
    obtain ⟨A', c', w', hrun, hS'⟩ := run_append_st (P := P) (ty := ty) (cm := cm) (f := bsf ys) ht hi hz hsize hby rfl (by decide) h (.here _ _) hr (fun _ _ => rfl) (by unfold maxLen; omega) (by omega)
    rw [flat_bsf, ← List.map_append] at hS'
    exact ⟨A', c', w', hrun, hS'.toC (by rw [List.length_append])⟩
  rcases hS.getC pk with ⟨rfl, rfl, rfl⟩ | ⟨g, cur, rfl, hg, h1, h2, h3, h4, h5⟩
  · exact own (((hS.pick pk).drop).nilrow e 1)
  · rcases h5 with h5 | h5
    · subst h5
      rcases Nat.eq_zero_or_pos ys.length with h0 | h0
      · have hys : ys = [] := List.eq_nil_of_length_eq_zero h0
        subst hys
        simp only [List.length_nil, Nat.add_zero, List.append_nil]
        refine ⟨some ⟨g, 0, none⟩, bs.length, w, ?_, hS.pick pk⟩
        have hlo : ∀ a, (loadCells a 0).run P w = .ok #[] w := fun a => by simp [loadCells, loadCellsFrom]
        cases B <;> simp [Builtin.append_, run_underlying ht, sizeOf, typeInfo, hi, Builtin.lenOf, Builtin.firstCells, hlo, storeCells]
      · obtain ⟨ad, rfl, _, hc⟩ := hr h0
        have hnews : ∀ j u, (ys.map bv)[j]? = some u → w.cell? (ad.add j) = some u := fun j u hu => by
          have hj : j < ys.length := by
            rcases Nat.lt_or_ge j ys.length with h | h
            · exact h
            · rw [List.getElem?_eq_none (by simpa using h)] at hu; cases hu
          have h6 := (hc j hj).2 0 u (by
            rw [List.getElem?_map, List.getElem?_eq_getElem hj, Option.map_some] at hu
            rw [bsf, List.getD_eq_getElem?_getD, List.getElem?_eq_getElem hj]
            simpa using hu)
          rw [add_add, Nat.mul_one, Nat.add_zero] at h6
          exact h6
        have holds : ∀ j u, (bs.map bv)[j]? = some u → w.cell? ((⟨g, 0, none⟩ : Addr).add j) = some u := fun j u hu => by
          rw [← h4, List.getElem?_take] at hu
          rw [addr_add, Nat.zero_add, cell_of_row w g j cur e (0, 0) hg]
          split at hu
          · simpa using hu
          · cases hu
        have hrun := run_append_grow (P := P) w t ty e i (.int .u8 0) ht hi hz ⟨g, 0, none⟩ bs.length bs.length (bs.map bv) (by rw [hsize, List.length_map, Nat.mul_one]) holds ad ys.length cm (ys.map bv) (by rw [hsize, List.length_map, Nat.mul_one]) hnews (by omega) (by omega) (by rw [hby]; exact growslice_fits (by omega) (by omega))
        refine ⟨_, _, _, hrun, St.toC ((hS.pick pk).drop.add ⟨rfl, rfl, rfl, by simp, fun k hk _ => Below.heap_alloc w.drew _ k hk⟩ (F := [w.heap.size]) ⟨rfl, ?_, .inr ⟨w.heap.size, _, _, rfl, Nat.zero_le _, heap_alloc_new w.drew _, grownCap_ge w _ _ e, grownCap_le_maxLen w _ _ e (by unfold maxLen; omega), ?_, ?_⟩⟩
            (fun k hk => by have := List.mem_singleton.1 hk; omega)) (by rw [List.length_append])⟩
        · simp
        · have hge := grownCap_ge w (bs.length + ys.length) bs.length e
          have hz1 : (Value.int IntKind.u8 0).cells.size = 1 := rfl
          simp only [Array.size_append, List.size_toArray, size_zeroCells, hz1, List.length_map]
          omega
        · simp only [Array.toList_append, List.map_append]
          rw [show (bs.length + ys.length) * 1 = (bs.map bv ++ ys.map bv).length by simp]
          exact List.take_left
    · exact own ((hS.pick pk).upd fun F hF => ⟨Fr.refl _ _, F, ⟨hF.1, by simp, .inr ⟨g, c, cur, rfl, Nat.zero_le _, hg, h1, h2, by rw [h5, Nat.mul_one], by rw [Nat.mul_one]; exact h4⟩⟩, fun k hk => .inl hk⟩)
theorem t_append_C {t e : TypeId} {x y : Operand} {ty : TypeId} {d : Tmp} {p : String} {af : Array Edge} {i : TypeInfo} (ht : P.underlying t = some (.slice e)) (hi : P.info? e = some i) (hz : i.zero = some (.int .u8 0)) (hsize : i.size = 1) (hby : i.bytes = 1)
    {A B : Option Addr} {n m c cm : Nat} {bs ys : List UInt8} (hS : St W w L) (pk : Pick L (rowC e A c bs) R) (hr : RdB w B ys) (hx : ev ρ x = .slice A n c) (hy : ev ρ y = .slice B m cm) (hn : n = bs.length) (hm : m = ys.length) (hbytes : bs.length + ys.length ≤ 140737488355328)
    (h : ∀ A' c' w', St W w' (rowC e A' c' (bs ++ ys) :: R) → textE P all rest (up ρ d (.slice A' (bs ++ ys).length c')) w' N) :
    textE P all (⟨some d, .call ⟨.builtin .append, #[x, y], #[t, t]⟩, ty, p, af, none⟩ :: rest) ρ w N := by
  subst hn hm
  obtain ⟨A', c', w', hrun, hS'⟩ := run_append_C (P := P) (ty := ty) (cm := cm) ht hi hz hsize hby hS pk hr hbytes
  have h2 := h A' c' w' hS'
  rw [List.length_append] at h2
  refine t_val (w' := w') (fun dst pos af gd => ?_) h2
  simp [execOp, resolve, invoke, builtin, hx, hy, hrun]
end
section
variable {P : Program} {all : Array Oper} {ρ : Env} {w : World} {N : Env → World → Prop} {rest : List Oper}
theorem q_makeFunc_b {ty : TypeId} {f : Fn} {a b : Array Operand} {al bl : List Value} (ha : a.toList.map (ev ρ) = al) (hb : b.toList.map (ev ρ) = bl) : qv P (.makeFunc f a b) ty ρ w (.func f al.toArray bl.toArray) := by
  intro _ _ _ _
  have e1 : a.map (ev ρ) = al.toArray := by rw [← ha, ← Array.toList_map, Array.toArray_toList]
  have e2 : b.map (ev ρ) = bl.toArray := by rw [← hb, ← Array.toList_map, Array.toArray_toList]
  simp [execOp, Instr.makeFunc, e1, e2]
theorem t_callv_b {d : Option Tmp} {x : Operand} {f : FuncId} {first cap : Array Value} {args : Array Operand} {ats : Array TypeId} {ty : TypeId} {p : String} {af : Array Edge} {R : Ending → World → Prop} {al : List Value}
    (hf : ∀ (us : Array Value) w, (callFunc f us).run P w = .ok (.enter f us) w) (hx : ev ρ x = .func (.func f) first cap) (hc : Calls P f al.toArray w R) (has : first.toList ++ args.toList.map (ev ρ) ++ cap.toList = al)
    (h : ∀ e w', R e w' → ∃ v, e = .returned v ∧ textE P all rest (putE ρ d v) w' N) : textE P all (⟨d, .call ⟨.value x, args, ats⟩, ty, p, af, none⟩ :: rest) ρ w N := by
  refine t_op ?_
  unfold opE
  have e : (execOp (ev ρ) ⟨d, .call ⟨.value x, args, ats⟩, ty, p, af, none⟩).run P w = .ok (.enter f al.toArray) w := by
    have e1 : first ++ args.map (ev ρ) ++ cap = al.toArray := by rw [← has, ← Array.toList_map, ← Array.toList_append, ← Array.toList_append, Array.toArray_toList]
    simp [execOp, resolve, Deferred.ofValue, hx, invoke, hf, e1]
  rw [e]
  exact hc.mono fun e w' hr => h e w' hr
end
section
variable {P : Program} {all : Array Oper} {ρ : Env} {w : World} {N : Env → World → Prop} {rest : List Oper}
theorem t_nu {d : Option Tmp} {op : Op} {ty : TypeId} {p : String} {af : Array Edge} {j dj : Nat} {want : Bool} (hd : (all[j]?).bind (·.dst) = some dj) (hv : ρ dj = undef)
    (h : textE P all rest (putE ρ d undef) w N) : textE P all (⟨d, op, ty, p, af, some (j, want)⟩ :: rest) ρ w N := by
  unfold textE
  rw [if_neg (by simp [Region.wanted, yE, hd, hv, undef])]
  exact h
end
end Go.Proofs.Ytlppgpidakfnlaa
