/- Errors as chains of faults. -/
import Derived.Test.YtcgagmojgjbfpaaDoorFa0
import Derived.Test.YtcgagmojgjbfpaaDoorIf
import Derived.Test.YtcgagmojgjbfpaaDoorMp
import Derived.Test.YtcgagmojgjbfpaaDoorR
namespace Go.Proofs.YtcgagmojgjbfpaaDoor
open Go Go.RowKit Go.Lib
variable {W : World}
def EtOk (w : World) : Prop := w.cell? ⟨0, 0, none⟩ = some (.iface 143 (.agg #[.pointer (some ⟨1, 24, none⟩)]))
theorem EtOk.st {w : World} {L : List Asn} (h : EtOk W) (hS : St W w L) : EtOk w := by
  have hlt : 0 < W.heap.size := by
    rcases Nat.eq_zero_or_pos W.heap.size with h0 | h1
    · unfold EtOk at h; simp [World.cell?, h0] at h
    · exact h1
  unfold EtOk at h ⊢
  rw [← h]
  unfold World.cell?
  rw [hS.below.block 0 hlt]
def fcs (l c : Int) (e : Value) : List Value := [.int .i64 l, .int .i64 c, e]
def fltP (g : Nat) (l c : Int) (e : Value) : RdP := ⟨3, some ⟨g, 0, none⟩, 1, fun _ => fcs l c e⟩
def pcs (g : Nat) : List Value := [.pointer (some ⟨g, 0, none⟩)]
/-- an error that is this chain of faults, the outermost first: layer and number -/
def ErrL (ps : List RdP) : Value → List (Int × Int) → Prop
  | v, [] => v = .nilIface
  | v, (l, c) :: F => ∃ g e, v = .iface 35 (.pointer (some ⟨g, 0, none⟩)) ∧ fltP g l c e ∈ ps ∧ ErrL ps e F
theorem ErrL.mono {ps ps' : List RdP} (hs : ∀ p ∈ ps, p ∈ ps') : ∀ {F : List (Int × Int)} {v : Value}, ErrL ps v F → ErrL ps' v F
  | [], _, h => h
  | _ :: _, _, ⟨g, e, h1, h2, h3⟩ => ⟨g, e, h1, hs _ h2, h3.mono hs⟩
theorem flt_cell {w : World} {g j : Nat} {l c : Int} {u v : Value} {L R : List Asn} {ps : List RdP} (hS : St W w L) (pk : Pick L (rdsA ps) R) (hm : fltP g l c u ∈ ps) (hv : (fcs l c u)[j]? = some v) : w.cell? ⟨g, j, none⟩ = some v := by
  obtain ⟨ad, hA, _, hc⟩ := (hS.rds pk hm) (show 0 < 1 by decide)
  obtain rfl : (⟨g, 0, none⟩ : Addr) = ad := Option.some.inj hA
  have h := (hc 0 (show 0 < 1 by decide)).2 j v hv
  rw [add_add, addr_add] at h
  simpa using h
theorem St.rds_blk {w : World} {R : List Asn} {g t : Nat} {cs : List Value} {l : List RdP} (hS : St W w (blkA g t cs :: rdsA l :: R)) : St W w (rdsA (⟨cs.length, some ⟨g, 0, none⟩, 1, fun _ => cs⟩ :: l) :: R) := by
  have hr : Rd w cs.length (some ⟨g, 0, none⟩) 1 (fun _ => cs) := (hS.blk (.here _ _)).rd fun i hi => ⟨rfl, fun j v hv => by
    obtain rfl : i = 0 := by omega
    simpa using hv⟩
  have h := hS.unstar
  refine h.upd fun F hF => ?_
  obtain ⟨F1, F2, e, h1, h2, _⟩ := hF
  refine ⟨Fr.refl _ _, F, ⟨fun k hk => ?_, fun p hp => ?_⟩, fun k hk => .inl hk⟩
  · rw [e] at hk
    rcases List.mem_append.1 hk with hk | hk
    · exact (blkA g t cs).lt w F1 h1 k hk
    · exact h2.1 k hk
  · rcases List.mem_cons.1 hp with hp | hp
    · subst hp
      exact ⟨hr, fun _ a ha => by
        rw [e]
        refine List.mem_append_left _ ?_
        rw [h1.1]
        obtain rfl : (⟨g, 0, none⟩ : Addr) = a := Option.some.inj ha
        simp⟩
    · obtain ⟨h3, h4⟩ := h2.2 p hp
      exact ⟨h3, fun hn a ha => by rw [e]; exact List.mem_append_right _ (h4 hn a ha)⟩
theorem fAs_calls {w : World} {R : List Asn} {g : Nat} {ps : List RdP} {v : Value} {F : List (Int × Int)} (hE : EtOk w) (hS : St W w (blkA g 35 [.pointer none] :: rdsA ps :: R)) (hv : ErrL ps v F) : Calls Tryd.prog 76 #[v, .iface 111 (.pointer (some ⟨g, 0, none⟩))] w fun e w' =>
  ∃ p : Option Addr, e = .returned (.bool p.isSome) ∧ (p = none ∧ F = [] ∨ ∃ g1 l c u F', p = some ⟨g1, 0, none⟩ ∧ F = (l, c) :: F' ∧ fltP g1 l c u ∈ ps ∧ ErrL ps u F') ∧ St W w' (blkA g 35 [.pointer p] :: rdsA ps :: R) := by
  cases F with
  | nil =>
    obtain rfl : v = .nilIface := hv
    refine (as_nil _ w).mono fun e w' h => ?_
    obtain ⟨rfl, rfl⟩ := h
    exact ⟨none, rfl, .inl ⟨rfl, rfl⟩, hS⟩
  | cons a F' =>
    obtain ⟨l, c⟩ := a
    obtain ⟨g1, u, rfl, hm, hu⟩ := hv
    refine (as_hit ⟨g1, 0, none⟩ ⟨g, 0, none⟩ (.pointer none) w hE (hS.cell (.here _ _) rfl) ((hS.blk (.here _ _)).frozen 0)).mono fun e w' h => ?_
    obtain ⟨rfl, rfl⟩ := h
    exact ⟨some ⟨g1, 0, none⟩, rfl, .inr ⟨g1, l, c, u, F', rfl, rfl, hm, hu⟩, ((((hS.fr (Fr.alloc _ _ _)).fr (Fr.alloc _ _ _)).fr (Fr.alloc _ _ _)).fr (Fr.alloc _ _ _)).set_ (.here _ _) 0 _⟩
theorem drop_lt {F F' : List (Int × Int)} {a : Int × Int} {j : Nat} (h : F.drop j = a :: F') : j < F.length := by
  rcases Nat.lt_or_ge j F.length with h1 | h1
  · exact h1
  · rw [List.drop_eq_nil_of_le h1] at h; cases h
theorem drop_step {F F' : List (Int × Int)} {a : Int × Int} {j : Nat} (h : F.drop j = a :: F') : F.getD j (0, 0) = a ∧ F' = F.drop (j + 1) := by
  have h1 := drop_lt h
  rw [List.drop_eq_getElem_cons h1] at h
  obtain ⟨h2, h3⟩ := List.cons.inj h
  exact ⟨by rw [List.getD_eq_getElem?_getD, List.getElem?_eq_getElem h1]; exact h2, h3.symm⟩
theorem gs_step {ps : List RdP} {gs : List Nat} {F F' : List (Int × Int)} {g1 : Nat} {l c : Int} {u : Value} (hgs : (∀ i, i < gs.length → ∃ u, fltP (gs.getD i 0) (F.getD i (0, 0)).1 (F.getD i (0, 0)).2 u ∈ ps ∧ ErrL ps u (F.drop (i + 1)))) (hFj : F.drop gs.length = (l, c) :: F') (hm : fltP g1 l c u ∈ ps) (hu : ErrL ps u F') : ∀ i, i < (gs ++ [g1]).length → ∃ u, fltP ((gs ++ [g1]).getD i 0) (F.getD i (0, 0)).1 (F.getD i (0, 0)).2 u ∈ ps ∧ ErrL ps u (F.drop (i + 1)) := fun i hi => by
  rw [List.length_append] at hi
  have hi2 : i < gs.length + 1 := hi
  rcases Nat.lt_or_ge i gs.length with h | h
  · obtain ⟨u, h1, h2⟩ := hgs i h
    refine ⟨u, ?_, h2⟩
    rw [List.getD_eq_getElem?_getD, List.getElem?_append_left h, ← List.getD_eq_getElem?_getD]
    exact h1
  · obtain rfl : i = gs.length := by omega
    obtain ⟨h1, h2⟩ := drop_step hFj
    rw [h1, ← h2]
    refine ⟨u, ?_, hu⟩
    rw [List.getD_eq_getElem?_getD, List.getElem?_append_right (Nat.le_refl _), Nat.sub_self]
    exact hm
attribute [local irreducible] blkA rowA rdsA
set_option maxHeartbeats 1000000 in
set_option maxRecDepth 100000 in
theorem chain_calls {w : World} {R : List Asn} {ps : List RdP} {v0 : Value} {F : List (Int × Int)} (hE : EtOk W) (hS : St W w (rdsA ps :: R)) (hv0 : ErrL ps v0 F) (hF : F.length ≤ 1000) : Calls Tryd.prog 41 #[v0] w fun e w' => ∃ A c, ∃ gs : List Nat, e = .returned (.slice A gs.length c) ∧ gs.length = F.length ∧ (∀ i, i < gs.length → ∃ u, fltP (gs.getD i 0) (F.getD i (0, 0)).1 (F.getD i (0, 0)).2 u ∈ ps ∧ ErrL ps u (F.drop (i + 1))) ∧ St W w' (rowA 35 1 A gs.length c ((gs).flatMap pcs) :: rdsA ps :: R) := by
  refine calls_of_wpE (args := [_]) Tryd.func41 rfl rfl rfl ?_
  refine c_seq ?_
  refine c_region ?_
  refine t_q (q_assign) ?_
  refine t_nil ?_
  refine c_seq ?_
  refine c_region ?_
  refine t_alloc Tryd.zeroValue35 rfl hS (fun g3 w hS => ?_)
  replace hS := hS.recast (show _ = blkA g3 35 [.pointer none] from rfl)
  replace hS := hS.nilrow 35 1
  refine t_nil ?_
  refine c_seq ?_
  refine c_block ?_
  refine c_loop [0, 2, 4, 5, 6, 7, 8, 9, 10, 11, 12, 13, 14, 15, 16, 17, 18] (fun k σ w => ∃ (v : Value) (gs : List Nat) (A : Option Addr) (c : Nat), σ 0 = v ∧ σ 2 = .slice A gs.length c ∧ gs.length ≤ F.length ∧ F.length + 1 - gs.length ≤ k ∧ ErrL ps v (F.drop gs.length) ∧ (∀ i, i < gs.length → ∃ u, fltP (gs.getD i 0) (F.getD i (0, 0)).1 (F.getD i (0, 0)).2 u ∈ ps ∧ ErrL ps u (F.drop (i + 1))) ∧ St W w (blkA g3 35 [.pointer none] :: rowA 35 1 A gs.length c ((gs).flatMap pcs) :: rdsA ps :: R)) (F.length + 1) rfl (⟨v0, [], none, 0, rfl, rfl, Nat.zero_le _, Nat.le_refl _, hv0, (fun i h => absurd h (by show ¬ i < 0; omega)), (((hS.pick (A := rdsA ps) (by repeat first | exact .here _ _ | assumption | apply Pick.there)).pick (A := rowA 35 1 none 0 0 []) (by repeat first | exact .here _ _ | assumption | apply Pick.there)).pick (A := blkA g3 35 [.pointer none]) (by repeat first | exact .here _ _ | assumption | apply Pick.there))⟩) ?_
  skip
  rintro k σ w ⟨v, gs, A, c, h0, h2, hg, hk, hv, hgs, hS⟩
  refine c_know 0 h0 ?_
  refine c_know 2 h2 ?_
  clear h0 h2
  refine c_seq ?_
  refine c_seq ?_
  refine c_region ?_
  refine t_q (q_mv v rfl) ?_
  refine t_q (q_iface Tryd.runUnderlying111 (fun _ h => by cases h) rfl) ?_
  refine t_call Tryd.call76 (fAs_calls (hE.st hS) ((hS.pick (A := rdsA ps) (by repeat first | exact .here _ _ | assumption | apply Pick.there)).pick (A := blkA g3 35 [.pointer none]) (by repeat first | exact .here _ _ | assumption | apply Pick.there)) hv) rfl ?_
  rintro e w ⟨p, rfl, hp, hS⟩
  refine ⟨_, rfl, ?_⟩
  refine t_q (q_mv (.bool _) rfl) ?_
  refine t_case 7 rfl ?_ ?_
  · intro hg2
    rcases hp with ⟨rfl, _⟩ | ⟨g1, l, c1, u, F', rfl, hFj, hm, hu⟩
    · cases hg2
    refine t_yes rfl rfl hg2 ?_
    refine t_q (q_load1 Tryd.isAgg35 rfl (hS.cell (by repeat first | exact .here _ _ | assumption | apply Pick.there) rfl)) ?_
    refine t_yes rfl rfl hg2 ?_
    refine t_q (q_cast (v' := .bool true) (q_neq_ptr_nil Tryd.runUnderlying35 rfl rfl) (by rfl)) ?_
    refine t_q (q_pick_t rfl hg2) ?_
    refine t_nil ?_
    refine c_cond_t rfl rfl ?_
    refine c_skip ?_
    refine c_block ?_
    refine c_seq ?_
    refine c_region ?_
    refine t_q (q_mv (.slice _ _ _) rfl) ?_
    refine t_q (q_load1 Tryd.isAgg35 rfl (hS.cell (by repeat first | exact .here _ _ | assumption | apply Pick.there) rfl)) ?_
    refine t_buildSlice Tryd.runUnderlying77 Tryd.sizeOf35 Tryd.zeroValue35 rfl rfl (by intro v hv; simp at hv; try (first | (subst hv; rfl) | (rcases hv with rfl | rfl <;> rfl))) (by decide) (by decide) hS (fun g13 w hS => ?_)
    refine t_append_own (size := 1) (bytes := 8) Tryd.underlying77 (info_of Tryd.type35) rfl rfl rfl rfl (by decide) hS (by repeat first | exact .here _ _ | assumption | apply Pick.there) (by repeat first | exact .here _ _ | assumption | apply Pick.there) rfl rfl (by first | exact allOne_bv _ | exact allOne_ints _ _ | rfl) (by unfold maxLen; omega) (by omega) (fun A14 c14 w hS => ?_)
    replace hS := (hS.pick (A := rowA 35 1 A14 _ c14 _) (by repeat first | exact .here _ _ | assumption | apply Pick.there)).recast (show _ = rowA 35 1 A14 (gs.length + 1) c14 ((gs ++ [g1]).flatMap pcs) from by rw [List.flatMap_append, List.flatMap_cons, List.flatMap_nil, List.append_nil]; rfl)
    refine t_q (q_as (.slice _ _ _) rfl) ?_
    refine t_nil ?_
    refine c_seq ?_
    refine c_region ?_
    refine t_q (q_load1 Tryd.isAgg35 rfl (hS.cell (by repeat first | exact .here _ _ | assumption | apply Pick.there) rfl)) ?_
    refine t_q (q_nilCheck rfl) ?_
    refine t_q (q_fieldAddr 2 Tryd.runUnderlying76 rfl Tryd.sizeOf24 (by decide) rfl rfl) ?_
    refine t_q (q_load1 Tryd.isAgg24 rfl (flt_cell hS (by repeat first | exact .here _ _ | assumption | apply Pick.there) hm rfl)) ?_
    refine t_q (q_as u rfl) ?_
    refine t_nil ?_
    refine c_region ?_
    refine t_store (v := (.pointer _)) Tryd.sizeOf35 hS (by repeat first | exact .here _ _ | assumption | apply Pick.there) rfl rfl rfl rfl rfl rfl (fun w hS => ?_)
    replace hS := hS.recast (show blkA g3 35 _ = blkA g3 35 [.pointer none] from rfl)
    refine t_nil ?_
    have hlt : gs.length < F.length := drop_lt hFj
    have hd := drop_step hFj
    exact ⟨k - 1, by omega, u, gs ++ [g1], A14, c14, rfl, by rw [List.length_append]; rfl, by rw [List.length_append]; exact hlt, by rw [List.length_append]; show F.length + 1 - (gs.length + 1) ≤ k - 1; omega, by rw [List.length_append]; exact hd.2 ▸ hu, gs_step hgs hFj hm hu, by rw [List.length_append]; exact (((hS.pick (A := rdsA ps) (by repeat first | exact .here _ _ | assumption | apply Pick.there)).pick (A := rowA 35 1 A14 (gs.length + 1) c14 ((gs ++ [g1]).flatMap pcs)) (by repeat first | exact .here _ _ | assumption | apply Pick.there)).pick (A := blkA g3 35 [.pointer none]) (by repeat first | exact .here _ _ | assumption | apply Pick.there))⟩
  · intro hg2
    rcases hp with ⟨rfl, hFj⟩ | ⟨g1, l, c1, u, F', rfl, hFj, hm, hu⟩
    rotate_left
    · cases hg2
    refine t_no rfl rfl (by rw [hg2]; decide) ?_
    refine t_no rfl rfl (by rw [hg2]; decide) ?_
    refine t_q (q_pick_f rfl hg2) ?_
    refine t_nil ?_
    refine c_cond_f rfl rfl ?_
    refine c_exit ?_
    refine ite_t rfl ?_
    refine c_seq ?_
    refine c_region ?_
    refine t_q (q_mv (.slice _ _ _) rfl) ?_
    refine t_q (q_as (.slice _ _ _) rfl) ?_
    refine t_nil ?_
    refine c_ret ?_
    refine r_one rfl rfl ?_
    have he : gs.length = F.length := by
      have := List.drop_eq_nil_iff.1 hFj
      omega
    exact ⟨A, c, gs, rfl, he, hgs, (((hS.pick (A := blkA g3 35 _) (by repeat first | exact .here _ _ | assumption | apply Pick.there)).drop.pick (A := rdsA ps) (by repeat first | exact .here _ _ | assumption | apply Pick.there)).pick (A := rowA 35 1 A gs.length c ((gs).flatMap pcs)) (by repeat first | exact .here _ _ | assumption | apply Pick.there))⟩
end Go.Proofs.YtcgagmojgjbfpaaDoor
