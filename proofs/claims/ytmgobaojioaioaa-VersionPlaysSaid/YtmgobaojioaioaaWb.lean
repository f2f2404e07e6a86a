/- Registries: how they lie in memory. -/
import Derived.Test.YtmgobaojioaioaaWa
import Derived.Test.YtmgobaojioaioaaMp
import Derived.Test.YtmgobaojioaioaaIf
import Derived.Laws.Externs
import Derived.Test.YtmgobaojioaioaaSh
namespace Go.Proofs.Ytmgobaojioaioaa
open Go Go.RowKit Go.Lib
variable {W : World}
theorem rset_at : ∀ (vs pre cs : List Value), cs.length = vs.length → setN (pre ++ cs) pre.length vs = pre ++ vs
  | [], pre, cs, h => by rw [List.eq_nil_of_length_eq_zero h]; rfl
  | v :: vs, pre, [], h => by cases h
  | v :: vs, pre, c :: cs, h => by
    rw [setN, List.set_append_right _ _ (Nat.le_refl _), Nat.sub_self, List.set_cons_zero]
    have ih := rset_at vs (pre ++ [v]) cs (by simpa using h)
    rw [List.length_append, List.append_assoc, List.append_assoc] at ih
    exact ih
theorem rset_full {vs cs : List Value} (h : cs.length = vs.length) : setN cs 0 vs = vs := rset_at vs [] cs h
def rkv (x : RuV) : Int × Value := (x.version, .agg x.cells.toArray)
def ruP (y : RuV) : List RdP := [⟨2, y.ticks.A, y.ticks.l.length, fun i => (y.ticks.l.getD i default).cells⟩, ⟨3, y.fees.A, y.fees.l.length, fun i => (y.fees.l.getD i default).cells⟩]
/-- a rule set that can be read wherever these rows can -/
structure RuBy (W : World) (ps : List RdP) (x : RuV) : Prop where
  or : x.Gd W ∨ ∀ (V w : World) (L R : List Asn), St V w L → Pick L (rdsA ps) R → x.Gd w
theorem RuBy.gd {w : World} {L R : List Asn} {ps : List RdP} {x : RuV} (h : RuBy W ps x) (hS : St W w L) (pk : Pick L (rdsA ps) R) : x.Gd w := by
  rcases h.or with h | h
  · exact h.st hS
  · exact h _ _ _ _ hS pk
theorem RuBy.base {ps : List RdP} {x : RuV} (h : x.Gd W) : RuBy W ps x := ⟨.inl h⟩
theorem RuBy.mono {ps ps' : List RdP} {x : RuV} (h : RuBy W ps x) (hs : ∀ p ∈ ps, p ∈ ps') : RuBy W ps' x := ⟨h.or.imp id fun h V w L R hS pk => h V w _ _ ((hS.pick pk).rds_sub hs) (.here _ _)⟩
theorem RuBy.z {ps : List RdP} : RuBy W ps ruZ := ⟨.inl ruZ_gd⟩
theorem RuBy.own {V : World} {x : RuV} {A B : Option Addr} {c d : Nat} {ps : List RdP} (h : x.Gd V) (hs : ∀ p ∈ ruP (x.own A c B d), p ∈ ps) : RuBy W ps (x.own A c B d) := ⟨.inr fun _ _ _ _ hS pk =>
  h.own (hS.rds (p := ⟨2, A, x.ticks.l.length, fun i => (x.ticks.l.getD i default).cells⟩) pk (hs _ (.head _))) (hS.rds (p := ⟨3, B, x.fees.l.length, fun i => (x.fees.l.getD i default).cells⟩) pk (hs _ (.tail _ (.head _))))⟩
theorem ruT_gdp {w : World} {s : Rs} {y : RuV} (h : ∃ A c B d, y = ruT s A c B d) (h1 : RdTk w y.ticks.A y.ticks.l) (h2 : RdTr w y.fees.A y.fees.l) : y.Gd w := by
  obtain ⟨A, c, B, d, e⟩ := h
  cases hb : ruOk s with
  | false =>
    have h3 := (ruT_no (A := A) (B := B) (c := c) (d := d) hb).1
    rw [e, h3]
    exact ruZ_gd
  | true =>
    have h3 := (ruT_yes (A := A) (B := B) (c := c) (d := d) hb).1
    rw [e, h3] at h1 h2 ⊢
    exact ruV_gd h1 h2
theorem RuBy.read {s : Rs} {y : RuV} {ps : List RdP} (hy : ∃ A c B d, y = ruT s A c B d) (hs : ∀ p ∈ ruP y, p ∈ ps) : RuBy W ps y := ⟨.inr fun _ _ _ _ hS pk =>
  ruT_gdp hy (hS.rds (p := ⟨2, y.ticks.A, y.ticks.l.length, fun i => (y.ticks.l.getD i default).cells⟩) pk (hs _ (.head _))) (hS.rds (p := ⟨3, y.fees.A, y.fees.l.length, fun i => (y.fees.l.getD i default).cells⟩) pk (hs _ (.tail _ (.head _))))⟩
theorem rows_rds {V w : World} {t t' : Nat} {R : List Asn} {ps : List RdP} {y : RuV} (hS : St V w (rowA t 2 y.ticks.A y.ticks.l.length y.ticks.c (y.ticks.l.flatMap Tk.cells) :: rowA t' 3 y.fees.A y.fees.l.length y.fees.c (y.fees.l.flatMap Tr.cells) :: rdsA ps :: R)) : St V w (rdsA (ruP y ++ ps) :: R) := by
  have hF := rowRdTr hS (.there (.here _ _)) rfl
  have hT := rowRdTk hS (.here _ _) rfl
  have h1 : St V w (rowA t' 3 y.fees.A y.fees.l.length y.fees.c (y.fees.l.flatMap Tr.cells) :: rdsA ps :: rowA t 2 y.ticks.A y.ticks.l.length y.ticks.c (y.ticks.l.flatMap Tk.cells) :: R) := (hS.pick (.there (.there (.here _ _)))).pick (.there (.there (.here _ _)))
  have h2 := h1.rds_add (f := fun i => (y.fees.l.getD i default).cells) hF
  have h3 := h2.pick (.there (.here _ _))
  exact h3.rds_add (f := fun i => (y.ticks.l.getD i default).cells) hT
theorem rds_join {V w : World} {R : List Asn} {a b : List RdP} (h : St V w (rdsA a :: rdsA b :: R)) : St V w (rdsA (a ++ b) :: R) := by
  have h := h.unstar
  refine h.upd fun F hF => ?_
  obtain ⟨F1, F2, e, h1, h2, _⟩ := hF
  refine ⟨Fr.refl _ _, F, ⟨fun k hk => ?_, fun p hp => ?_⟩, fun k hk => .inl hk⟩
  · rw [e] at hk
    rcases List.mem_append.1 hk with hk | hk
    · exact h1.1 k hk
    · exact h2.1 k hk
  · rcases List.mem_append.1 hp with hp | hp
    · obtain ⟨h3, h4⟩ := h1.2 p hp
      exact ⟨h3, fun hn a ha => by rw [e]; exact List.mem_append_left _ (h4 hn a ha)⟩
    · obtain ⟨h3, h4⟩ := h2.2 p hp
      exact ⟨h3, fun hn a ha => by rw [e]; exact List.mem_append_right _ (h4 hn a ha)⟩
theorem mfind_rkv (v : Int) : ∀ X : List RuV, (mfind (X.map rkv) v = none ∧ ∀ x ∈ X, x.version ≠ v) ∨ ∃ x ∈ X, x.version = v ∧ mfind (X.map rkv) v = some (.agg x.cells.toArray)
  | [] => .inl ⟨rfl, fun _ h => by cases h⟩
  | x :: X => by
    by_cases h : x.version = v
    · exact .inr ⟨x, List.mem_cons_self, h, by simp only [List.map_cons, rkv, mfind, if_pos h]⟩
    · have e1 : mfind ((x :: X).map rkv) v = mfind (X.map rkv) v := by simp only [List.map_cons, rkv, mfind, if_neg h]
      rw [e1]
      rcases mfind_rkv v X with ⟨h1, h2⟩ | ⟨y, hy, h1, h2⟩
      · refine .inl ⟨h1, fun y hy => ?_⟩
        rcases List.mem_cons.1 hy with rfl | hy
        · exact h
        · exact h2 y hy
      · exact .inr ⟨y, List.mem_cons_of_mem _ hy, h1, h2⟩
theorem mset_new (k : Int) (u : Value) : ∀ X : List RuV, (∀ x ∈ X, x.version ≠ k) → mset (X.map rkv) k u = X.map rkv ++ [(k, u)]
  | [], _ => rfl
  | x :: X, h => by
    have h0 := h x List.mem_cons_self
    have := mset_new k u X fun y hy => h y (List.mem_cons_of_mem _ hy)
    simp only [List.map_cons, rkv, mset, if_neg h0, List.cons_append] at this ⊢
    rw [this]
/-- what a registry's map holds, and what it means -/
structure RegOk (W : World) (X M : List RuV) (ps : List RdP) : Prop where
  perm : (X.map nf).Perm M
  good : GReg M
  by_ : ∀ x ∈ X, RuBy W ps x
theorem RegOk.nodup {X M : List RuV} {ps : List RdP} (h : RegOk W X M ps) : (X.map (·.version)).Nodup := by
  have h1 : (M.map (·.version)).Nodup := by
    rw [List.nodup_iff_pairwise_ne, List.pairwise_map]
    exact h.good.srt.imp fun h => by omega
  have h2 := h.perm.map (·.version)
  rw [List.map_map] at h2
  exact h2.nodup_iff.2 h1
theorem RegOk.len {X M : List RuV} {ps : List RdP} (h : RegOk W X M ps) : X.length = M.length := by
  have := h.perm.length_eq
  rwa [List.length_map] at this
theorem RegOk.goodx {X M : List RuV} {ps : List RdP} (h : RegOk W X M ps) {x : RuV} (hx : x ∈ X) : goodR x = true := show goodR (nf x) = true from h.good.good (nf x) (h.perm.subset (List.mem_map.2 ⟨x, hx, rfl⟩))
theorem RegOk.mono {X M : List RuV} {ps ps' : List RdP} (h : RegOk W X M ps) (hs : ∀ p ∈ ps, p ∈ ps') : RegOk W X M ps' := ⟨h.perm, h.good, fun x hx => (h.by_ x hx).mono hs⟩
theorem reg_find {X M : List RuV} {ps : List RdP} (h : RegOk W X M ps) (v : Int) : (mfind (X.map rkv) v = none ∧ rgF M v = none ∧ ∀ x ∈ X, x.version ≠ v) ∨ ∃ x ∈ X, x.version = v ∧ mfind (X.map rkv) v = some (.agg x.cells.toArray) ∧ rgF M v = some (nf x) := by
  rcases mfind_rkv v X with ⟨h1, h2⟩ | ⟨x, hx, hv, h1⟩
  · refine .inl ⟨h1, rgF_none fun r hr => ?_, h2⟩
    obtain ⟨x, hx, rfl⟩ := List.mem_map.1 (h.perm.mem_iff.2 hr)
    exact h2 x hx
  · refine .inr ⟨x, hx, hv, h1, ?_⟩
    subst hv
    exact rgF_some h.good.srt (h.perm.subset (List.mem_map.2 ⟨x, hx, rfl⟩))
theorem reg_get {X M : List RuV} {ps : List RdP} (h : RegOk W X M ps) (v : Int) : ∃ x, (mfind (X.map rkv) v).getD (.agg ruZ.cells.toArray) = .agg x.cells.toArray ∧ (mfind (X.map rkv) v).isSome = (rgF M v).isSome ∧ nf x = (rgF M v).getD ruZ ∧ RuBy W ps x := by
  rcases reg_find h v with ⟨h1, h2, _⟩ | ⟨x, hx, _, h1, h2⟩
  · exact ⟨ruZ, by rw [h1]; rfl, by rw [h1, h2]; rfl, by rw [h2]; rfl, RuBy.z⟩
  · exact ⟨x, by rw [h1]; rfl, by rw [h1, h2]; rfl, by rw [h2]; rfl, h.by_ x hx⟩
theorem reg_put {X M : List RuV} {ps ps' : List RdP} {x y : RuV} (h : RegOk W X M ps) (h0 : gputE M x = 0) (hy : nf y = nf x) (hb : RuBy W ps' y) (hs : ∀ p ∈ ps, p ∈ ps') : RegOk W (X ++ [y]) (gputM M x) ps' := by
  refine ⟨?_, h.good.put x, fun z hz => ?_⟩
  · have e : gputM M x = rgI M (nf x) := by unfold gputM; rw [if_pos h0]
    rw [e, List.map_append, List.map_cons, List.map_nil, hy]
    exact (List.perm_append_comm.trans (List.Perm.cons _ h.perm)).trans (rgI_perm _ _).symm
  · rcases List.mem_append.1 hz with hz | hz
    · exact (h.by_ z hz).mono hs
    · rw [List.mem_singleton.1 hz]; exact hb
theorem reg_new {X M : List RuV} {ps : List RdP} {x : RuV} (h : RegOk W X M ps) (h0 : (rgF M x.version).isSome = false) (u : Value) : mset (X.map rkv) x.version u = X.map rkv ++ [(x.version, u)] := by
  rcases reg_find h x.version with ⟨_, _, h2⟩ | ⟨y, _, _, _, h2⟩
  · exact mset_new _ _ _ h2
  · rw [h2] at h0; cases h0
def regA (W : World) (g : Nat) (M : List RuV) (ps : List RdP) : Asn := exA fun r => exA fun X => pureA (RegOk W X M ps) (starA (blkA g 120 [.map (some r)]) (mapA .i64 r (X.map rkv)))
theorem St.reg {V w : World} {R : List Asn} {g : Nat} {M : List RuV} {ps : List RdP} (h : St V w (regA W g M ps :: R)) : ∃ r X, RegOk W X M ps ∧ St V w (blkA g 120 [.map (some r)] :: mapA .i64 r (X.map rkv) :: R) := by
  obtain ⟨r, h⟩ := h.ex
  obtain ⟨X, h⟩ := h.ex
  obtain ⟨h1, h⟩ := h.pure
  exact ⟨r, X, h1, h.star⟩
theorem St.unreg {V w : World} {R : List Asn} {g r : Nat} {X M : List RuV} {ps : List RdP} (hk : RegOk W X M ps) (h : St V w (blkA g 120 [.map (some r)] :: mapA .i64 r (X.map rkv) :: R)) : St V w (regA W g M ps :: R) := St.unex r (St.unex X (St.unpure hk h.unstar))
theorem St.reg_mono {V w : World} {R : List Asn} {g : Nat} {M : List RuV} {ps ps' : List RdP} (h : St V w (regA W g M ps :: R)) (hs : ∀ p ∈ ps, p ∈ ps') : St V w (regA W g M ps' :: R) := by
  obtain ⟨r, X, hk, h⟩ := h.reg
  exact St.unreg (hk.mono hs) h
theorem St.reg_good {V w : World} {L R : List Asn} {g : Nat} {M : List RuV} {ps : List RdP} (h : St V w L) (pk : Pick L (regA W g M ps) R) : GReg M := by
  obtain ⟨r, X, hk, _⟩ := (h.pick pk).reg
  exact hk.good
section
open Go.Maps
theorem keys_calls {w : World} {L : List Asn} {r : Nat} (hS : St W w L) : Calls Try.prog 106 #[.map (some r)] w fun e w' => ∃ g, e = .returned (.func (.func 137) #[] #[.pointer (some ⟨g, 0, none⟩)]) ∧ St W w' (blkA g 118 [.map (some r)] :: L) := by
  refine ((callsIn_wide (n := 5)).1 (keys_at (some r) w)).mono ?_
  rintro e w' ⟨rfl, rfl⟩
  exact ⟨_, rfl, hS.add (Fr.alloc _ _ _) (F := [w.heap.size]) ⟨rfl, heap_alloc_new w _⟩ (fun k hk => by have := List.mem_singleton.1 hk; omega)⟩
def rtriv : Value → Option (DataW Unit × List MemPlace) := fun _ => some (.nil, [])
set_option maxRecDepth 100000 in
theorem reg_owns {w : World} {L R : List Asn} {r : Nat} {X M : List RuV} {ps : List RdP} (hk : RegOk W X M ps) (hS : St W w L) (pk : Pick L (mapA .i64 r (X.map rkv)) R) : ∃ D0 : DataW Unit, w.ownsMap Try.prog 3 rtriv r X.length D0 ∧ Maps.size D0 = X.length ∧ (intKeys D0).Perm (X.map (·.version)) := by
  obtain ⟨es, clock, hb, hkv, hm⟩ := hS.map pk
  have hsz : es.size = X.length := by
    have := congrArg List.length hkv
    simpa using this
  have hkeys : es.toList.map (·.key) = X.map fun x => Value.int .i64 x.version := by
    have := congrArg (List.map Prod.fst) hkv
    rw [List.map_map, List.map_map, List.map_map] at this
    exact this
  have hwf : ∀ x ∈ X, (Lit.int .i64 x.version).wf = true := fun x hx => wf_i (by have := good_ver (hk.goodx hx); omega)
  have hrd : ∀ e ∈ es.toList, ∃ x ∈ X, e.key = .int .i64 x.version := fun e he => by
    have : e.key ∈ es.toList.map (·.key) := List.mem_map.2 ⟨e, he, rfl⟩
    rw [hkeys] at this
    obtain ⟨x, hx, h⟩ := List.mem_map.1 this
    exact ⟨x, hx, h.symm⟩
  have hrg : ∀ e ∈ es.toList, ∀ n, e.key = .int .i64 n → (Lit.int .i64 n).wf = true → Go.WideElems.rd Try.prog 3 rtriv e = some (.int .i64 n, .nil) := fun e _ n h hw => by
    unfold Go.WideElems.rd
    rw [h, keyOf_int_mk Try.underlying3 hw]
    rfl
  have hfit : Go.WideElems.Fit Try.prog 3 rtriv es clock := ⟨by rw [hsz, hk.len]; have := hk.good.len; unfold maxLen; omega, ⟨hm.1, hm.2, by
      rw [hkeys, List.nodup_iff_pairwise_ne, List.pairwise_map]
      have h1 := hk.nodup
      rw [List.nodup_iff_pairwise_ne, List.pairwise_map] at h1
      exact h1.imp fun h e => h (by injection e)⟩, fun e he => by
      obtain ⟨x, hx, h⟩ := hrd e he
      exact ⟨_, hrg e he _ h (hwf x hx)⟩⟩
  refine ⟨_, ⟨es, clock, hb, hfit, by omega, rfl⟩, ?_, ?_⟩
  · show ((es.toList.map _).foldr DataW.insert []).length = _
    rw [length_sorted, List.length_map]
    exact hsz
  · show (((es.toList.map (Go.WideElems.rg Try.prog 3 rtriv)).foldr DataW.insert []).map fun p => Go.intOf p.1).Perm _
    refine ((Go.WideShapes.sorted_perm _).map _).trans ?_
    rw [List.map_map]
    have e1 : es.toList.map ((fun p : Lit × DataW Unit => Go.intOf p.1) ∘ Go.WideElems.rg Try.prog 3 rtriv) = X.map (·.version) := by
      have h1 : es.toList.map ((fun p : Lit × DataW Unit => Go.intOf p.1) ∘ Go.WideElems.rg Try.prog 3 rtriv) = (es.toList.map (·.key)).map (fun v => match v with | .int _ n => n | _ => 0) := by
        rw [List.map_map]
        refine List.map_congr_left fun e he => ?_
        obtain ⟨x, hx, h⟩ := hrd e he
        show Go.intOf (Go.WideElems.rg Try.prog 3 rtriv e).1 = _
        rw [Go.WideElems.rg_of (hrg e he _ h (hwf x hx))]
        show x.version = (match e.key with | .int _ n => n | _ => 0)
        rw [h]
      rw [h1, hkeys, List.map_map]
      rfl
    rw [e1]
theorem sorted_calls {w : World} {R : List Asn} {r g : Nat} {X M : List RuV} {ps : List RdP} (hk : RegOk W X M ps) (hS : St W w (blkA g 118 [.map (some r)] :: mapA .i64 r (X.map rkv) :: R)) :
    Calls Try.prog 105 #[.func (.func 137) #[] #[.pointer (some ⟨g, 0, none⟩)]] w fun e w' => ∃ A c, e = .returned (.slice A M.length c) ∧ St W w' (rowA 3 1 A M.length c ((M.map (·.version)).map (Value.int .i64)) :: blkA g 118 [.map (some r)] :: mapA .i64 r (X.map rkv) :: R) := by
  obtain ⟨D0, hown, hsz, hpm⟩ := reg_owns hk hS (.there (.here _ _))
  have hlen := hk.good.len
  have hln := hk.len
  have hbk := hS.blk (.here _ _)
  refine ((callsIn_wide (n := 5)).1 (sorted_at r X.length g D0 rtriv w hown (hS.cell (.here _ _) rfl) hbk.lt (by rw [hsz]; unfold maxLen; omega) (by rw [hsz]; omega))).mono ?_
  rintro e w' ⟨v, ss, rfl, hS2, hrow, hnil, hbel⟩
  have hsl : ss.length = M.length := by
    have h1 := (hS2.trans hpm).length_eq
    rw [List.length_map] at h1
    omega
  have hks := srt_keys hk.perm hk.good.srt (hS2.trans hpm)
  rw [hks, hsl] at hrow
  have hwell : ∃ A c, v = .slice A M.length c := by
    rcases hrow.2 with ⟨rfl, h0⟩ | ⟨gb, cap, cur, rfl, _⟩
    · exact ⟨none, 0, by rw [h0]⟩
    · exact ⟨_, cap, rfl⟩
  obtain ⟨A, c, rfl⟩ := hwell
  have hT : St w w' [rowA 3 1 A M.length c ((M.map (·.version)).map (Value.int .i64))] := by
    refine ⟨hbel, (A.map (·.block)).toList, ⟨_, [], (List.append_nil _).symm, ⟨rfl, hrow.1, ?_⟩, rfl, fun _ _ h => by cases h⟩, fun k hk => ?_⟩
    · rcases hrow.2 with h | ⟨gb, cap, cur, h1, _, h3⟩
      · exact .inl h
      · exact .inr ⟨gb, cap, cur, h1, Nat.zero_le _, h3⟩
    · rcases hrow.2 with ⟨h, _⟩ | ⟨gb, cap, cur, h1, h2, _⟩
      · injection h with hA
        rw [hA] at hk
        cases hk
      · injection h1 with hA
        rw [hA] at hk
        have hk := List.mem_singleton.1 hk
        simp only at hk
        omega
  exact ⟨A, c, rfl, hS.lift hT⟩
end
attribute [local irreducible] blkA rowA rdsA mapA regA
end Go.Proofs.Ytmgobaojioaioaa
