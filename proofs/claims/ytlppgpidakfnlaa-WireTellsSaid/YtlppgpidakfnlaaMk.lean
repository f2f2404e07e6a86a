/- make and copy: a row of zeros; bytes copied into a row of the call's own. -/
import Derived.Test.YtlppgpidakfnlaaSr
import Derived.Laws.MakeOwn
namespace Go.Proofs.Ytlppgpidakfnlaa
open Go Go.RowKit
theorem madeCells_one (v : Value) (n : Nat) : (madeCells #[v] n).toList = List.replicate n v := by
  apply List.ext_getElem
  · simp [madeCells]
  · intro i h1 h2
    simp [madeCells, Nat.mod_one]
section
variable {P : Program} {all : Array Oper} {ρ : Env} {W w : World} {L R : List Asn} {N : Env → World → Prop} {rest : List Oper}
theorem t_make {t e : TypeId} {x y : Operand} {ty : TypeId} {d : Tmp} {p : String} {af : Array Edge} {i : TypeInfo} {z : Value} (ht : P.underlying t = some (.slice e)) (hi : P.info? e = some i) (hz : i.zero = some z) (hzc : z.cells = #[z]) (hsize : i.size = 1)
    {kl kc : IntKind} {n : Nat} (hx : ev ρ x = .int kl (n : Int)) (hy : ev ρ y = .int kc (n : Int)) (hbytes : i.bytes * n ≤ 281474976710656) (h63 : n ≤ maxLen) (hS : St W w L)
    (h : ∀ g w', St W w' (rowA e 1 (some ⟨g, 0, none⟩) n n (List.replicate n z) :: L) → textE P all rest (up ρ d (.slice (some ⟨g, 0, none⟩) n n)) w' N) :
    textE P all (⟨some d, .makeSlice t x y, ty, p, af, none⟩ :: rest) ρ w N := by
  have h63' : (n : Int) ≤ 9223372036854775807 := by have h := h63; simp [maxLen] at h; omega
  have hb' : (i.bytes : Int) * (n : Int) ≤ 281474976710656 := by
    have h : ((i.bytes * n : Nat) : Int) ≤ 281474976710656 := by omega
    rwa [Int.natCast_mul] at h
  have hr := run_make (P := P) w t e i z ht hi hz kl kc n n (by omega) (Int.le_refl _) hb' h63'
  simp only [Int.toNat_natCast, hsize, hzc, Nat.mul_one] at hr
  refine t_val (w' := w.alloc (.cells (madeCells #[z] n) e)) (v := .slice (some ⟨w.heap.size, 0, none⟩) n n) (fun dst pos af gd => ?_) (h w.heap.size _ ?_)
  · simp [execOp, hx, hy, hr]
  · have hrow := World.ownsRow_lit (base := 0) (e := e) (size := 1) w (madeCells #[z] n) n (Nat.zero_le _) h63 (by rw [size_madeCells, Nat.mul_one])
    rw [madeCells_one] at hrow
    exact hS.add (Fr.alloc [] w _) (F := [w.heap.size]) ⟨rfl, hrow⟩ (fun k hk => by rw [List.mem_singleton.1 hk]; exact Nat.le_refl _)
theorem setN_front : ∀ (vs cs : List Value) (off : Nat), off + vs.length ≤ cs.length → setN cs off vs = cs.take off ++ vs ++ cs.drop (off + vs.length)
  | [], cs, off, _ => by simp [setN]
  | v :: vs, cs, off, h => by
    simp only [List.length_cons] at h
    rw [setN, setN_front vs (cs.set off v) (off + 1) (by simp; omega), List.length_cons]
    rw [List.take_succ_eq_append_getElem (by simp; omega), List.take_set_of_le (Nat.le_refl _), List.getElem_set_self, List.drop_set_of_lt (by omega)]
    simp [Nat.add_assoc, Nat.add_comm 1]
theorem run_copy_st {t e : TypeId} {ty : TypeId} {i : TypeInfo} (ht : P.underlying t = some (.slice e)) (hi : P.info? e = some i) (hsize : i.size = 1) {g m c cm : Nat} {B : Option Addr} {zs ys : List UInt8} (hS : St W w L) (pk : Pick L (rowA e 1 (some ⟨g, 0, none⟩) m c (zs.map bv)) R)
    (hr : RdB w B ys) (hm : m = zs.length) : ∃ w', (Builtin.copy_ #[t, t] ty #[.slice (some ⟨g, 0, none⟩) m c, .slice B ys.length cm]).run P w = .ok (.int .i64 ((min ys.length m : Nat) : Int)) w' ∧
      St W w' (rowA e 1 (some ⟨g, 0, none⟩) m c ((ys.take m ++ zs.drop (min ys.length m)).map bv) :: R) := by
  obtain ⟨hxl, ⟨h0, _⟩ | ⟨g', cap, cur, hval, hb, hg, hmc, hcm, hcs, htk⟩⟩ := hS.row pk
  · cases h0
  · injection hval with hA hm' hc'
    injection hA with hA
    injection hA with hA
    subst hA hc'
    have hB : Blk w g e cur.toList := by unfold Blk; rw [hg]
    have htl : ((ys.take m).map bv).length = min ys.length m := by rw [List.length_map, List.length_take, Nat.min_comm]
    have hfirst : (Builtin.firstCells 1 (min ys.length m) (.slice B ys.length cm)).run P w = .ok ((ys.take m).map bv).toArray w := by
      rcases Nat.eq_zero_or_pos ys.length with h0 | h0
      · have : ys = [] := List.length_eq_zero_iff.1 h0
        subst this
        cases B with
        | none => simp [Builtin.firstCells]
        | some a => simp [Builtin.firstCells, loadCells, loadCellsFrom]
      · obtain ⟨ad, rfl, _, hcell⟩ := hr h0
        refine run_firstCells_some (P := P) w 1 _ ad ys.length cm _ (by rw [htl, Nat.mul_one]) fun j v hv => ?_
        have hj : j < ys.length := by
          rcases Nat.lt_or_ge j ((ys.take m).map bv).length with h | h
          · rw [htl] at h; omega
          · rw [List.getElem?_eq_none h] at hv; cases hv
        have hjm : j < m := by
          rcases Nat.lt_or_ge j ((ys.take m).map bv).length with h | h
          · rw [htl] at h; omega
          · rw [List.getElem?_eq_none h] at hv; cases hv
        have h2 := (hcell j hj).2 0 v (by
          rw [List.getElem?_map, List.getElem?_take, if_pos hjm, List.getElem?_eq_getElem hj] at hv
          simp only [bsf, List.getD_eq_getElem?_getD, List.getElem?_eq_getElem hj]
          exact hv)
        rw [add_add, Nat.mul_one, Nat.add_zero] at h2
        exact h2
    have hxl' : zs.length = m := hm.symm
    have hle : ((ys.take m).map bv).length ≤ cur.toList.length := by
      have hcl : cur.toList.length = c * 1 := by rw [Array.length_toList, hcs]
      rw [htl, hcl]; omega
    obtain ⟨w', hst, hb', hf⟩ := run_storeCells_blk (P := P) (off := 0) ((ys.take m).map bv) 0 w cur.toList hB (by omega) (allOne_bv _)
    refine ⟨w', ?_, ?_⟩
    · have hst' := hst
      rw [List.map_take] at hst' hfirst
      simp [Builtin.copy_, run_underlying ht, sizeOf, typeInfo, hi, hsize, Builtin.lenOf, hfirst, hst', goInt]
    · refine (hS.pick pk).upd fun F hF => ?_
      obtain ⟨rfl, _⟩ := hF
      refine ⟨hf, [g], ⟨rfl, ?_, .inr ⟨g, c, (setN cur.toList (0 + 0) ((ys.take m).map bv)).toArray, rfl, Nat.zero_le _, hb', hmc, hcm, ?_, ?_⟩⟩, fun _ hk => .inl hk⟩
      · simp only [List.length_map, List.length_append, List.length_take, List.length_drop]; omega
      · simp [setN_length, hcs]
      · rw [show (setN cur.toList (0 + 0) ((ys.take m).map bv)).toArray.toList = setN cur.toList 0 ((ys.take m).map bv) from rfl, setN_take, htk, setN_front _ _ _ (by simp; omega)]
        simp [Nat.min_comm]
theorem t_copy {t e : TypeId} {x y : Operand} {ty : TypeId} {d : Option Tmp} {p : String} {af : Array Edge} {i : TypeInfo} (ht : P.underlying t = some (.slice e)) (hi : P.info? e = some i) (hsize : i.size = 1) {g m c cm n : Nat} {B : Option Addr} {zs ys : List UInt8} (hS : St W w L)
    (pk : Pick L (rowA e 1 (some ⟨g, 0, none⟩) m c (zs.map bv)) R) (hr : RdB w B ys) (hx : ev ρ x = .slice (some ⟨g, 0, none⟩) m c) (hy : ev ρ y = .slice B n cm) (hn : n = ys.length) (hm : m = zs.length)
    (h : ∀ w', St W w' (rowA e 1 (some ⟨g, 0, none⟩) m c ((ys.take m ++ zs.drop (min ys.length m)).map bv) :: R) → textE P all rest (putE ρ d (.int .i64 ((min ys.length m : Nat) : Int))) w' N) :
    textE P all (⟨d, .call ⟨.builtin .copy, #[x, y], #[t, t]⟩, ty, p, af, none⟩ :: rest) ρ w N := by
  subst hn
  obtain ⟨w', hrun, hS'⟩ := run_copy_st (P := P) (ty := ty) (cm := cm) ht hi hsize hS pk hr hm
  refine t_val (w' := w') (fun dst pos af gd => ?_) (h w' hS')
  simp [execOp, resolve, invoke, builtin, hx, hy, hrun]
end
section
variable {P : Program} {ρ : Env} {w : World} {ty : TypeId}
theorem q_build_arr {t e : TypeId} {parts : Array (Nat × Operand)} {len size : Nat} {zs : List Value} (qs : List (Nat × Nat)) (cs : List Value) (hz : ∀ w, (zeroValue t).run P w = .ok (.agg zs.toArray) w) (hu : ∀ w, (underlying t).run P w = .ok (.array len e) w) (hs : ∀ w, (sizeOf e).run P w = .ok size w)
    (hq : (parts.toList.all fun q => match qs[q.1]? with | some r => Nat.beq r.1 (q.1 * size) && Nat.beq r.2 size | none => false) = true) (hok : fillOk qs zs.length (parts.toList.map fun q => (q.1, ev ρ q.2)) = true) (hcs : fillL qs zs (parts.toList.map fun q => (q.1, ev ρ q.2)) = cs) : qv P (.build t parts) ty ρ w (.agg cs.toArray) := by
  refine q_of _ (fun _ _ _ _ => rfl) ?_
  have hp : (parts.map fun (i, x) => (i, ev ρ x)).toList = parts.toList.map fun q => (q.1, ev ρ q.2) := by simp
  have hf : Instr.fill (fun i => some (i * size, size)) (zs.toArray) (parts.toList.map fun q => (q.1, ev ρ q.2)) = some cs.toArray := by
    rw [← hcs]
    refine fill_eq qs _ (fun p hp => ?_) zs hok
    obtain ⟨q, hq1, rfl⟩ := List.mem_map.1 hp
    have h1 := List.all_eq_true.1 hq q hq1
    cases h2 : qs[q.1]? with
    | none => rw [h2] at h1; cases h1
    | some r =>
      rw [h2] at h1
      simp only [Bool.and_eq_true] at h1
      have e1 := Nat.eq_of_beq_eq_true h1.1
      have e2 := Nat.eq_of_beq_eq_true h1.2
      show some (q.1 * size, size) = some r
      rw [← e1, ← e2]
  simp only [Instr.build, Sem.run_bind, hz, Result.andThen_ok, hu, hs, hp]
  simp only [Value.cells]
  rw [hf]
  rfl
theorem q_index_arr {t e : TypeId} {x i : Operand} {cs : List Value} {len : Nat} {k : IntKind} {j : Nat} {v : Value} (ht : ∀ w, (underlying t).run P w = .ok (.array len e) w) (hz : ∀ w, (sizeOf e).run P w = .ok 1 w) (hA : ∀ w, (isAgg e).run P w = .ok false w) (hx : ev ρ x = .agg cs.toArray) (hi : ev ρ i = .int k (j : Int)) (hb : j < len) (hv : cs[j]? = some v) : qv P (.index t x i) ty ρ w v := by
  refine q_of _ (fun _ _ _ _ => rfl) ?_
  have h0 : (0 : Int) ≤ (j : Int) ∧ (j : Int) < (len : Int) := by omega
  simp [Instr.index, hx, hi, asIntOf, ht, hb, part, hA, hz, hv]
end
section
variable {P : Program} {ops : Array Oper} {I : World → Prop} {N : Env → World → Prop} {ρ : Env} {w : World} {done : List Nat} {n : Nat}
/-- left out: its guard's own operation was left out -/
theorem p_nu (hap : apartB ops = true) (hsel : noSelect ops = true) (r : Nat) {d : Option Tmp} {op : Op} {ty : TypeId} {p : String} {af : Array Edge} {j dj : Nat} {want : Bool} (ho : ops.toList[r]? = some ⟨d, op, ty, p, af, some (j, want)⟩) (hr : readyE ops done r = true) (hI : I w)
    (hd : (ops.toList[j]?).bind (·.dst) = some dj) (hv : ρ dj = undef)
    (h : anyC P ops I n (r :: done) (putE ρ d undef) w N) : anyC P ops I (n + 1) done ρ w N := by
  rw [Array.getElem?_toList] at ho hd
  refine fun hcl => any_pull hap hsel ho n hcl hr (fun w' hI' K hK => ?_) hI (h (hcl.cons hr))
  unfold stepE
  rw [ho]
  dsimp only
  rw [if_neg (by simp [Region.wanted, yE, hd, hv, undef])]
  exact hK
end
theorem rep_bv (n : Nat) : List.replicate n (Value.int .u8 0) = (List.replicate n (0 : UInt8)).map bv := by rw [List.map_replicate]; rfl
end Go.Proofs.Ytlppgpidakfnlaa
