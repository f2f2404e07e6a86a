/- Operations that turn memory, over pieces ('St'). -/
import Derived.Test.YtcgagmojgjbfpaaDoorH0
import Derived.Lib.AppendStr
import Derived.Lib.ConvBytes
namespace Go.Proofs.YtcgagmojgjbfpaaDoor
open Go Go.RowKit Go.Lib
/-- cells written one behind the other -/
def setN (cs : List Value) (off : Nat) : List Value → List Value
  | [] => cs
  | v :: vs => setN (cs.set off v) (off + 1) vs
theorem setN_length (vs : List Value) : ∀ (cs : List Value) (off : Nat), (setN cs off vs).length = cs.length := by
  induction vs with
  | nil => exact fun _ _ => rfl
  | cons v vs ih => intro cs off; simp [setN, ih]
def allOne (vs : List Value) : Bool := vs.all Value.oneCell'
section
variable {P : Program}
theorem run_storeCells_blk {g : Nat} {t : TypeId} {off : Nat} (vs : List Value) : ∀ (i : Nat) (w : World) (cs : List Value), Blk w g t cs → off + i + vs.length ≤ cs.length → allOne vs = true →
    ∃ w', (storeCells ⟨g, off, none⟩ vs i).run P w = .ok () w' ∧ Blk w' g t (setN cs (off + i) vs) ∧ Fr [g] w w' := by
  induction vs with
  | nil => intro i w cs hb _ _; exact ⟨w, rfl, hb, Fr.refl _ _⟩
  | cons v vs ih =>
    intro i w cs hb hl h1
    simp only [allOne, List.all_cons, Bool.and_eq_true] at h1
    simp only [List.length_cons] at hl
    have hlt : off + i < cs.length := by omega
    have hc : w.cell? ⟨g, off + i, none⟩ = some cs[off + i] := by rw [hb.cell, List.getElem?_eq_getElem hlt]
    have hf := hb.frozen (off + i)
    obtain ⟨w', hr, hb', hfr⟩ := ih (i + 1) (w.setCell ⟨g, off + i, none⟩ v) (cs.set (off + i) v) (hb.set_ _ v) (by simp; omega) h1.2
    refine ⟨w', ?_, by simpa [setN, Nat.add_assoc] using hb', (Fr.setCell w ⟨g, off + i, none⟩ v).then hfr fun _ _ h => h⟩
    have e : (⟨g, off, none⟩ : Addr).add i = ⟨g, off + i, none⟩ := Addr.add_lit ..
    simp only [storeCells, e]
    simp [run_store P _ _ _ _ h1.1, hc, hf, hr]
section
variable {all : Array Oper} {ρ : Env} {W w : World} {N : Env → World → Prop} {rest : List Oper} {L R : List Asn}
theorem t_skip {op : Op} {ty : TypeId} {d : Option Tmp} {p : String} {af : Array Edge} {w' : World} (h : ∀ dst pos af g, (execOp (ev ρ) ⟨dst, op, ty, pos, af, g⟩).run P w = .ok .skip w') (hN : textE P all rest (putE ρ d undef) w' N) :
    textE P all (⟨d, op, ty, p, af, none⟩ :: rest) ρ w N := by
  refine t_op ?_
  unfold opE
  rw [h]
  exact hN
theorem t_val {op : Op} {ty : TypeId} {d : Option Tmp} {p : String} {af : Array Edge} {w' : World} {v : Value} (h : ∀ dst pos af g, (execOp (ev ρ) ⟨dst, op, ty, pos, af, g⟩).run P w = .ok (.value v) w') (hN : textE P all rest (putE ρ d v) w' N) :
    textE P all (⟨d, op, ty, p, af, none⟩ :: rest) ρ w N := by
  refine t_op ?_
  unfold opE
  rw [h]
  exact hN
theorem run_store_blk {t : TypeId} {n : Nat} (hz : ∀ w, (sizeOf t).run P w = .ok n w) {g off : Nat} {t' : TypeId} {cs : List Value} {v : Value} {vs : List Value} (hb : Blk w g t' cs) (hv : v.cells = vs.toArray) (hn : vs.length = n) (h1 : allOne vs = true) (hl : off + vs.length ≤ cs.length) :
    ∃ w', (Instr.storeAt t (.pointer (some ⟨g, off, none⟩)) v).run P w = .ok () w' ∧ Blk w' g t' (setN cs off vs) ∧ Fr [g] w w' := by
  obtain ⟨w', hr, hb', hf⟩ := run_storeCells_blk (P := P) vs 0 w cs hb (by simpa using hl) h1
  refine ⟨w', ?_, by simpa using hb', hf⟩
  simp [Instr.storeAt, Instr.sureAddr, storeVar, hz, hv, hn, hr]
theorem t_store {t : TypeId} {x y : Operand} {ty : TypeId} {d : Option Tmp} {p : String} {af : Array Edge} {n g off : Nat} {t' : TypeId} {cs vs : List Value} {v : Value} (hz : ∀ w, (sizeOf t).run P w = .ok n w)
    (hS : St W w L) (pk : Pick L (blkA g t' cs) R) (hx : ev ρ x = .pointer (some ⟨g, off, none⟩)) (hy : ev ρ y = v) (hv : v.cells = vs.toArray) (hn : vs.length = n) (h1 : allOne vs = true) (hl' : Nat.ble (off + vs.length) cs.length = true)
    (h : ∀ w', St W w' (blkA g t' (setN cs off vs) :: R) → textE P all rest (putE ρ d undef) w' N) : textE P all (⟨d, .store t x y, ty, p, af, none⟩ :: rest) ρ w N := by
  obtain ⟨w', hr, hb', hf⟩ := run_store_blk (P := P) hz (hS.blk pk) hv hn h1 (Nat.le_of_ble_eq_true hl')
  refine t_skip (w' := w') (fun dst pos af gd => ?_) (h w' ?_)
  · simp [execOp, hx, hy, hr]
  · exact (hS.pick pk).upd fun F hF => by obtain ⟨rfl, _⟩ := hF; exact ⟨hf, [g], ⟨rfl, hb'⟩, fun _ hk => .inl hk⟩
theorem t_alloc {t : TypeId} {ty : TypeId} {d : Tmp} {p : String} {af : Array Edge} {z : Value} {cs : List Value} (hz : ∀ w, (zeroValue t).run P w = .ok z w) (hc : z.cells = cs.toArray) (hS : St W w L)
    (h : ∀ g w', St W w' (blkA g t cs :: L) → textE P all rest (up ρ d (.pointer (some ⟨g, 0, none⟩))) w' N) : textE P all (⟨some d, .alloc t, ty, p, af, none⟩ :: rest) ρ w N := by
  refine t_val (w' := w.alloc (.cells cs.toArray t)) (v := .pointer (some ⟨w.heap.size, 0, none⟩)) (fun dst pos af gd => ?_) (h _ _ (hS.new t cs))
  simp [execOp, Instr.alloc, hz, newVar, newRow, newObj, Sem.run, hc]
theorem t_box {t : TypeId} {x : Operand} {ty : TypeId} {d : Tmp} {p : String} {af : Array Edge} {v : Value} {cs : List Value} (hx : ev ρ x = v) (hc : v.cells = cs.toArray) (hS : St W w L)
    (h : ∀ g w', St W w' (blkA g t cs :: L) → textE P all rest (up ρ d (.pointer (some ⟨g, 0, none⟩))) w' N) : textE P all (⟨some d, .box t x, ty, p, af, none⟩ :: rest) ρ w N := by
  refine t_val (w' := w.alloc (.cells cs.toArray t)) (v := .pointer (some ⟨w.heap.size, 0, none⟩)) (fun dst pos af gd => ?_) (h _ _ (hS.new t cs))
  simp [execOp, Instr.box, newVar, newRow, newObj, Sem.run, hx, hc]
/-- parts of one size laid one behind the other -/
theorem run_fill {size : Nat} (vs : List Value) (hs : ∀ v ∈ vs, v.cells.size = size) : ∀ (k : Nat) (cells : Array Value), cells.size = (k + vs.length) * size →
    ∃ out, Instr.fill (fun i => some (i * size, size)) cells ((List.range' k vs.length).zip vs) = some out ∧ out.toList = cells.toList.take (k * size) ++ vs.flatMap fun v => v.cells.toList := by
  induction vs with
  | nil => intro k cells hc; refine ⟨cells, rfl, ?_⟩; simp only [List.flatMap_nil, List.append_nil]; rw [List.take_of_length_le]; simp [hc]
  | cons v vs ih =>
    intro k cells hc
    have hv := hs v List.mem_cons_self
    simp only [List.length_cons] at hc
    have hk : (k + 1) * size ≤ cells.size := by rw [hc]; exact Nat.mul_le_mul_right _ (by omega)
    have hk1 : (k + 1) * size = k * size + size := Nat.succ_mul k size
    have key : ∀ (l : List Value) (j : Nat) (cs : Array Value), k * size + j + l.length ≤ cs.size →
        ((l.zipIdx j).foldl (fun cs (c, j) => cs.setIfInBounds (k * size + j) c) cs).toList = cs.toList.take (k * size + j) ++ l ++ cs.toList.drop (k * size + j + l.length) := by
      intro l
      induction l with
      | nil => intro j cs _; simp
      | cons u l ih =>
        intro j cs hl
        simp only [List.length_cons] at hl
        simp only [List.zipIdx_cons, List.foldl_cons]
        rw [ih (j + 1) _ (by simp; omega)]
        simp only [Array.toList_setIfInBounds, List.length_cons]
        have hlt : k * size + j < cs.toList.length := by simp; omega
        rw [show k * size + (j + 1) = (k * size + j) + 1 from by omega, List.take_succ_eq_append_getElem (by simp; omega), List.take_set_of_le (by omega), List.getElem_set_self,
          List.drop_set_of_lt (by omega)]
        simp [Nat.add_assoc, Nat.add_comm 1]
    have h0 := key v.cells.toList 0 cells (by simp only [Array.length_toList, hv]; omega)
    simp only [Nat.add_zero, Array.length_toList, hv] at h0
    generalize hcs : (v.cells.toList.zipIdx 0).foldl (fun cs (c, j) => cs.setIfInBounds (k * size + j) c) cells = cs1 at h0
    have hsz : cs1.size = cells.size := by
      rw [← Array.length_toList, h0]
      simp only [List.length_append, List.length_take, List.length_drop, Array.length_toList, hv]
      omega
    obtain ⟨out, ho, hl⟩ := ih (fun u hu => hs u (List.mem_cons_of_mem _ hu)) (k + 1) cs1 (by rw [hsz, hc]; congr 1; omega)
    refine ⟨out, ?_, ?_⟩
    · simp only [List.length_cons, List.range'_succ, List.zip_cons_cons, Instr.fill]
      rw [if_neg (by rw [hv]; simp; omega)]
      rw [← ho]
      congr 1
      rw [← hcs, ← Array.foldl_toList]
      simp [Array.toList_zipIdx]
    · rw [hl, h0, hk1, List.flatMap_cons, ← List.append_assoc]
      congr 1
      rw [List.take_append_of_le_length (by simp [hv]; omega), List.take_of_length_le (by simp [hv]; omega)]
theorem flat_length {size : Nat} {vs : List Value} (hv : ∀ v ∈ vs, v.cells.size = size) : (vs.flatMap fun v => v.cells.toList).length = vs.length * size := by
  induction vs with
  | nil => simp
  | cons v vs ih =>
    rw [List.flatMap_cons, List.length_append, ih fun u hu => hv u (List.mem_cons_of_mem _ hu), Array.length_toList, hv v List.mem_cons_self, List.length_cons, Nat.succ_mul]
    omega
theorem t_buildSlice {t e : TypeId} {len : Nat} {parts : Array (Nat × Operand)} {ty : TypeId} {d : Tmp} {p : String} {af : Array Edge} {size : Nat} {vs : List Value} {z : Value}
    (ht : ∀ w, (underlying t).run P w = .ok (.slice e) w) (hz : ∀ w, (sizeOf e).run P w = .ok size w) (hzero : ∀ w, (zeroValue e).run P w = .ok z w)
    (hi0 : parts.toList.map (·.1) = List.range' 0 len) (hvs : parts.toList.map (fun q => ev ρ q.2) = vs) (hv : ∀ v ∈ vs, v.cells.size = size) (hbig : len * size ≤ 2 ^ 24) (hsz : 0 < size) (hS : St W w L)
    (h : ∀ g w', St W w' (rowA e size (some ⟨g, 0, none⟩) len len (vs.flatMap fun v => v.cells.toList) :: L) → textE P all rest (up ρ d (.slice (some ⟨g, 0, none⟩) len len)) w' N) :
    textE P all (⟨some d, .buildSlice t len parts, ty, p, af, none⟩ :: rest) ρ w N := by
  have hl : vs.length = len := by
    have h1 := congrArg List.length hi0
    rw [← hvs]
    simpa using h1
  have hp : (parts.map fun q => (q.1, ev ρ q.2)).toList = (List.range' 0 len).zip vs := by
    rw [← hi0, ← hvs, Array.toList_map]
    generalize parts.toList = l
    induction l with
    | nil => rfl
    | cons q l ih => simp [ih]
  subst hl
  have hsz0 : ((Array.range (vs.length * size)).map fun i => (if vs.length * size = 0 then (#[] : Array Value) else z.cells)[i % (if vs.length * size = 0 then (#[] : Array Value) else z.cells).size]!).size = (0 + vs.length) * size := by simp
  obtain ⟨out, ho, hol⟩ := run_fill (size := size) vs hv 0 _ hsz0
  simp only [Nat.zero_mul, List.take_zero, List.nil_append] at hol
  have hrun : (Instr.buildSlice t vs.length (parts.map fun q => (q.1, ev ρ q.2))).run P w = .ok (.slice (some ⟨w.heap.size, 0, none⟩) vs.length vs.length) (w.alloc (.cells out e)) := by
    have hb : ¬ (vs.length * size > 2 ^ 24) := by omega
    by_cases h0 : vs.length * size = 0
    · simp only [if_pos h0] at ho
      simp only [Instr.buildSlice, Sem.run_bind, ht, hz, Result.andThen_ok, if_neg hb, if_pos h0]
      simp only [hp, ho, Sem.run_pure, Sem.run_bind, Result.andThen_ok]
      simp [newRow, newObj, Sem.run]
    · simp only [if_neg h0] at ho
      simp only [Instr.buildSlice, Sem.run_bind, ht, hz, Result.andThen_ok, if_neg hb, if_neg h0, hzero]
      simp only [hp, ho, Sem.run_pure, Sem.run_bind, Result.andThen_ok]
      simp [newRow, newObj, Sem.run]
  refine t_val (w' := w.alloc (.cells out e)) (v := .slice (some ⟨w.heap.size, 0, none⟩) vs.length vs.length) (fun dst pos af gd => ?_) (h _ _ ?_)
  · simp [execOp, hrun]
  · refine hS.add (Fr.alloc _ _ _) (F := [w.heap.size]) ⟨rfl, ?_, .inr ⟨w.heap.size, vs.length, out, rfl, Nat.zero_le _, heap_alloc_new w _, Nat.le_refl _, ?_, ?_, ?_⟩⟩ (fun k hk => by have := List.mem_singleton.1 hk; omega)
    · exact flat_length hv
    · have : vs.length ≤ 2 ^ 24 := Nat.le_trans (Nat.le_mul_of_pos_right _ hsz) hbig
      simp only [maxLen]; omega
    · rw [← Array.length_toList, hol, flat_length hv]
    · rw [hol, List.take_of_length_le]
      rw [flat_length hv]
      exact Nat.le_refl _
/-- bytes as values -/
def bv (b : UInt8) : Value := .int .u8 (b.toNat : Int)
theorem flat_ints (k : IntKind) (ns : List Int) : ((ns.map (Value.int k)).flatMap fun v => v.cells.toList) = ns.map (Value.int k) := by
  induction ns with
  | nil => rfl
  | cons n ns ih => simp only [List.map_cons, List.flatMap_cons, ih]; rfl
theorem t_build_ints {t e : TypeId} {len : Nat} {parts : Array (Nat × Operand)} {ty : TypeId} {d : Tmp} {p : String} {af : Array Edge} {k : IntKind} (ns : List Int)
    (ht : ∀ w, (underlying t).run P w = .ok (.slice e) w) (hz : ∀ w, (sizeOf e).run P w = .ok 1 w) (hzero : ∀ w, (zeroValue e).run P w = .ok (.int k 0) w)
    (hi0 : parts.toList.map (·.1) = List.range' 0 len) (hvs : parts.toList.map (fun q => ev ρ q.2) = ns.map (Value.int k)) (hbig : len ≤ 2 ^ 24) (hS : St W w L)
    (h : ∀ g w', St W w' (rowA e 1 (some ⟨g, 0, none⟩) len len (ns.map (Value.int k)) :: L) → textE P all rest (up ρ d (.slice (some ⟨g, 0, none⟩) len len)) w' N) :
    textE P all (⟨some d, .buildSlice t len parts, ty, p, af, none⟩ :: rest) ρ w N := by
  refine t_buildSlice (size := 1) ht hz hzero hi0 hvs (fun v hv => ?_) (by omega) (by omega) hS (fun g w' hS' => h g w' ?_)
  · obtain ⟨n, _, rfl⟩ := List.mem_map.1 hv; rfl
  · rwa [flat_ints] at hS'
/-- append onto a slice of the call's own, of a slice that reads -/
theorem run_append_st {t e : TypeId} {ty : TypeId} {i : TypeInfo} {z : Value} {size bytes : Nat} (ht : P.underlying t = some (.slice e)) (hi : P.info? e = some i) (hz : i.zero = some z)
    (hsize : i.size = size) (hby : i.bytes = bytes) (hzs : z.cells.size = size) (hsz : 0 < size) {A B : Option Addr} {n c m cm : Nat} {xs : List Value} {f : Nat → List Value}
    (hS : St W w L) (pk : Pick L (rowA e size A n c xs) R) (hr : Rd w size B m f) (h1 : ∀ k, k < m → allOne (f k) = true) (h63 : n + m ≤ maxLen) (hbytes : (n + m) * bytes ≤ 140737488355328) :
    ∃ A' c' w', (Builtin.append_ #[t, t] ty #[.slice A n c, .slice B m cm]).run P w = .ok (.slice A' (n + m) c') w' ∧ St W w' (rowA e size A' (n + m) c' (xs ++ (List.range m).flatMap f) :: R) := by
  have hown := hS.row pk
  rcases Nat.eq_zero_or_pos m with h0 | h0
  · subst h0
    simp only [Nat.add_zero, List.range_zero, List.flatMap_nil, List.append_nil]
    refine ⟨A, c, w, ?_, hS.pick pk⟩
    have hlo : ∀ a, (loadCells a 0).run P w = .ok #[] w := fun a => by simp [loadCells, loadCellsFrom]
    rcases hown.2 with ⟨he, _⟩ | ⟨g, cap, cur, he, _, _, hnc, _⟩
    · injection he with hA hn hc
      subst hA hn hc
      cases B <;> simp [Builtin.append_, run_underlying ht, sizeOf, typeInfo, hi, Builtin.lenOf, Builtin.firstCells, hlo]
    · injection he with hA _ hc
      subst hA hc
      cases B <;> simp [Builtin.append_, run_underlying ht, sizeOf, typeInfo, hi, Builtin.lenOf, Builtin.firstCells, hlo, hnc, storeCells]
  · obtain ⟨ad, rfl, _, hc⟩ := hr h0
    have hl : ∀ k, k ≤ m → ((List.range k).flatMap f).length = k * size := by
      intro k hk
      induction k with
      | zero => simp
      | succ k ih => rw [List.range_succ, List.flatMap_append, List.length_append, ih (by omega)]; simp [(hc k (by omega)).1, Nat.succ_mul]
    have hcells : ∀ j u, ((List.range m).flatMap f)[j]? = some u → w.cell? (ad.add j) = some u := by
      have : ∀ k, k ≤ m → ∀ j u, ((List.range k).flatMap f)[j]? = some u → w.cell? (ad.add j) = some u := by
        intro k
        induction k with
        | zero => intro _ j u hu; simp at hu
        | succ k ih =>
          intro hk j u hu
          rw [List.range_succ, List.flatMap_append] at hu
          by_cases hj : j < ((List.range k).flatMap f).length
          · rw [List.getElem?_append_left hj] at hu; exact ih (by omega) j u hu
          · rw [List.getElem?_append_right (by omega)] at hu
            have hj' : k * size ≤ j := by rw [hl k (by omega)] at hj; omega
            rw [hl k (by omega)] at hu
            have := (hc k (by omega)).2 (j - k * size) u (by simpa using hu)
            rw [add_add] at this
            rwa [show k * size + (j - k * size) = j from by omega] at this
      exact this m (Nat.le_refl _)
    have hone : ∀ u ∈ (List.range m).flatMap f, u.oneCell' = true := by
      intro u hu
      obtain ⟨k, hk, hu⟩ := List.mem_flatMap.1 hu
      exact List.all_eq_true.1 (h1 k (List.mem_range.1 hk)) u hu
    obtain ⟨v', w', hrun, hown', hg, _, hat⟩ := run_append_own_at (P := P) w 0 t ty e i z size bytes ht hi hz hsize hby hzs hsz (.slice A n c) n xs hown ad m cm _ (hl m (Nat.le_refl _)) hcells hone h63 hbytes (Nat.zero_le _)
    obtain ⟨g, cap, rfl, _, hlt⟩ := hown'.form (by omega)
    refine ⟨some ⟨g, 0, none⟩, cap, w', hrun, (hS.pick pk).upd fun F hF => ?_⟩
    have hob : (Value.slice A n c).ownBlock = A.map (·.block) := by cases A <;> rfl
    have hF1 : F = (A.map (·.block)).toList := hF.1
    refine ⟨?_, [g], ⟨rfl, hown'⟩, fun k hk => ?_⟩
    · have := Fr.of_grown hg
      rwa [hob, ← hF1] at this
    · have hk1 := List.mem_singleton.1 hk
      subst hk1
      rw [hob] at hat
      rcases hat with hat | hat
      · exact .inl (by rw [hF1, ← hat]; simp [Value.ownBlock])
      · have : k = w.heap.size := by simpa [Value.ownBlock] using hat
        exact .inr (by omega)
theorem t_append {t e : TypeId} {x y : Operand} {ty : TypeId} {d : Tmp} {p : String} {af : Array Edge} {i : TypeInfo} {z : Value} {size bytes : Nat} (ht : P.underlying t = some (.slice e)) (hi : P.info? e = some i) (hz : i.zero = some z)
    (hsize : i.size = size) (hby : i.bytes = bytes) (hzs : z.cells.size = size) (hsz : 0 < size) {A B : Option Addr} {n c m cm : Nat} {xs : List Value} {f : Nat → List Value}
    (hS : St W w L) (pk : Pick L (rowA e size A n c xs) R) (hr : Rd w size B m f) (hx : ev ρ x = .slice A n c) (hy : ev ρ y = .slice B m cm) (h1 : ∀ k, k < m → allOne (f k) = true) (h63 : n + m ≤ maxLen) (hbytes : (n + m) * bytes ≤ 140737488355328)
    (h : ∀ A' c' w', St W w' (rowA e size A' (n + m) c' (xs ++ (List.range m).flatMap f) :: R) → textE P all rest (up ρ d (.slice A' (n + m) c')) w' N) :
    textE P all (⟨some d, .call ⟨.builtin .append, #[x, y], #[t, t]⟩, ty, p, af, none⟩ :: rest) ρ w N := by
  obtain ⟨A', c', w', hrun, hS'⟩ := run_append_st (P := P) (ty := ty) (cm := cm) ht hi hz hsize hby hzs hsz hS pk hr h1 h63 hbytes
  refine t_val (w' := w') (fun dst pos af gd => ?_) (h A' c' w' hS')
  simp [execOp, resolve, invoke, builtin, hx, hy, hrun]
/-- append onto a slice of bytes of the call's own, of a slice of its own that is lost behind it -/
theorem t_append_own {t e : TypeId} {x y : Operand} {ty : TypeId} {d : Tmp} {p : String} {af : Array Edge} {i : TypeInfo} {z : Value} {size bytes : Nat} (ht : P.underlying t = some (.slice e)) (hi : P.info? e = some i) (hz : i.zero = some z)
    (hsize : i.size = size) (hby : i.bytes = bytes) (hzs : z.cells.size = size) (hsz : 0 < size) {A B : Option Addr} {n c m cm : Nat} {xs ys : List Value} {R1 : List Asn}
    (hS : St W w L) (pk1 : Pick L (rowA e size B m cm ys) R1) (pk : Pick R1 (rowA e size A n c xs) R) (hx : ev ρ x = .slice A n c) (hy : ev ρ y = .slice B m cm) (h1 : allOne ys = true) (h63 : n + m ≤ maxLen) (hbytes : (n + m) * bytes ≤ 140737488355328)
    (h : ∀ A' c' w', St W w' (rowA e size A' (n + m) c' (xs ++ ys) :: R) → textE P all rest (up ρ d (.slice A' (n + m) c')) w' N) :
    textE P all (⟨some d, .call ⟨.builtin .append, #[x, y], #[t, t]⟩, ty, p, af, none⟩ :: rest) ρ w N := by
  have hown := hS.row pk1
  let f : Nat → List Value := fun k => (ys.drop (k * size)).take size
  have hyl : ys.length = m * size := hown.1
  have hle : ∀ k, k < m → k * size + size ≤ m * size := fun k hk => by rw [← Nat.succ_mul]; exact Nat.mul_le_mul_right _ hk
  have hfl : ∀ k, k < m → (f k).length = size := fun k hk => by
    have := hle k hk
    simp only [f, List.length_take, List.length_drop, hyl]
    omega
  have hr : Rd w size B m f := own_rd hown hfl (fun i j hi hj => by
    simp only [f, List.getElem?_take, List.getElem?_drop]
    rw [if_pos hj])
  have hflat : ∀ k, k ≤ m → (List.range k).flatMap f = ys.take (k * size) := by
    intro k
    induction k with
    | zero => intro _; simp
    | succ k ih =>
      intro hk
      rw [List.range_succ, List.flatMap_append, ih (by omega), List.flatMap_cons, List.flatMap_nil, List.append_nil, Nat.succ_mul, List.take_add]
  have hone : ∀ k, k < m → allOne (f k) = true := fun k hk => List.all_eq_true.2 fun u hu => List.all_eq_true.1 h1 u (List.mem_of_mem_drop (List.mem_of_mem_take hu))
  have hS1 := (hS.pick pk1).drop
  refine t_append ht hi hz hsize hby hzs hsz hS1 pk hr hx hy hone h63 hbytes (fun A' c' w' hS' => h A' c' w' ?_)
  rw [hflat m (Nat.le_refl _), ← hyl, List.take_length] at hS'
  exact hS'
/-- a slice of bytes as a string, and back -/
def bsf (bs : List UInt8) (i : Nat) : List Value := [bv (bs.getD i 0)]
def RdB (w : World) (A : Option Addr) (bs : List UInt8) : Prop := Rd w 1 A bs.length (bsf bs)
theorem run_bts {A : Option Addr} {c : Nat} {bs : List UInt8} (hr : RdB w A bs) : (Conv.bytesToString (.slice A bs.length c)).run P w = .ok (.string ⟨bs.toArray⟩) w := by
  rcases A with _ | ad
  · have : bs = [] := by
      rcases Nat.eq_zero_or_pos bs.length with h | h
      · exact List.eq_nil_of_length_eq_zero h
      · obtain ⟨_, h, _⟩ := hr h; cases h
    subst this
    rfl
  · have hl : (loadCells ad bs.length).run P w = .ok ((bs.map fun b => (b.toNat : Int)).map (Value.int .u8)).toArray w := by
      rcases Nat.eq_zero_or_pos bs.length with h | h
      · have := List.eq_nil_of_length_eq_zero h
        subst this
        rfl
      · obtain ⟨ad', h1, _, hc⟩ := hr h
        injection h1 with h1
        subst h1
        have := run_loadCells (P := P) (w := w) (a := ad) (cs := (bs.map fun b => (b.toNat : Int)).map (Value.int .u8)) (fun j v hv => by
          have hj : j < bs.length := by simpa using (List.getElem?_eq_some_iff.1 hv).1
          have := (hc j hj).2 0 (bv (bs.getD j 0)) rfl
          rw [add_add] at this
          simp only [Nat.mul_one, Nat.add_zero] at this
          rw [this]
          rw [List.getElem?_map, List.getElem?_map, List.getElem?_eq_getElem hj] at hv
          rw [← hv, List.getD_eq_getElem?_getD, List.getElem?_eq_getElem hj]
          rfl)
        simpa using this
    rw [run_bytesToString w ad bs.length c _ hl]
    have key : ∀ (l : List UInt8) (s : ByteArray), (l.map fun b => (b.toNat : Int)).foldl (fun r n => r.push (UInt8.ofNat n.toNat)) s = ⟨s.data ++ l.toArray⟩ := by
      intro l
      induction l with
      | nil => intro s; simp
      | cons b l ih => intro s; simp only [List.map_cons, List.foldl_cons, ih]; simp [ByteArray.push]
    rw [key]
    simp [ByteArray.empty, ByteArray.emptyWithCapacity]
    rfl
theorem q_string {ty : TypeId} {s d e : TypeId} {x : Operand} {A : Option Addr} {n c : Nat} {bs : List UInt8} (hs : ∀ w, (underlying s).run P w = .ok (.slice e) w) (he : ∀ w, (underlying e).run P w = .ok (.int .u8) w) (hd : ∀ w, (underlying d).run P w = .ok .string w)
    (hx : ev ρ x = .slice A n c) (hn : n = bs.length) (hr : RdB w A bs) : qv P (.convert s d x) ty ρ w (.string ⟨bs.toArray⟩) := by
  subst hn
  refine q_of _ (fun _ _ _ _ => rfl) ?_
  simp [convert, hs, hd, he, hx, run_bts hr]
/-- a nil slice owns nothing -/
theorem St.nilrow (h : St W w L) (e : TypeId) (size : Nat) : St W w (rowA e size none 0 0 [] :: L) :=
  h.add (Fr.refl _ _) (F := []) ⟨rfl, World.ownsRow_nil w 0 e size⟩ (fun k hk => by cases hk)
end
end
end Go.Proofs.YtcgagmojgjbfpaaDoor
