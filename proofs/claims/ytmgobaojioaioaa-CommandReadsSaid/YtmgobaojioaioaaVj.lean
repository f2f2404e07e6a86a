/- Commands read from bytes: the document's. -/
import Derived.Test.YtmgobaojioaioaaVg
import Derived.Test.YtmgobaojioaioaaVe
import Derived.Test.YtmgobaojioaioaaUh
namespace Go.Proofs.Ytmgobaojioaioaa
open Go Go.RowKit Go.Lib
variable {W : World}
attribute [local irreducible] Rs.nat Rs.int oqI oqU
theorem oqI_skip {v : Int} {m : Nat} {s : Rs} (h : hasC v m = false) : oqI v m s = (0, s) := by unfold oqI; rw [h]; rfl
theorem oqU_skip {v : Int} {m : Nat} {s : Rs} (h : hasC v m = false) : oqU v m s = (0, s) := by unfold oqU; rw [h]; rfl
theorem oqI_take {v : Int} {m : Nat} {s : Rs} (h : hasC v m = true) : oqI v m s = s.int := by unfold oqI; rw [h]; rfl
theorem oqU_take {v : Int} {m : Nat} {s : Rs} (h : hasC v m = true) : oqU v m s = s.nat allNat := by unfold oqU; rw [h]; rfl
theorem cv_of {s : Rs} {k v : Int} (h : ((c0 s).1 : Int) = k) (hk : cfl k = v) : cv s = v := by unfold cv; rw [h, hk]
theorem c13_skip {s : Rs} (h : hasC (cv s) 1024 = false) : c13 s = (c12 s).2 := by unfold c13; rw [h]; rfl
theorem c13_take {s : Rs} (h : hasC (cv s) 1024 = true) : c13 s = ruS (c12 s).2 := by unfold c13; rw [h]; rfl
theorem cskip3 {s : Rs} (h : hasC (cv s) 1 = false) : c3 s = (0, (c2 s).2) := by unfold c3; exact oqI_skip h
theorem cq3 {w : World} {L R : List Asn} {g : Nat} {s t : Rs} (hb : hasC (cv s) 1 = true) (hS : St W w L) (pk : Pick L (rdrA W 87 g t) R) (ht : t = (c2 s).2) : Calls Try.prog 90 #[.pointer (some ⟨g, 0, none⟩)] w fun e w' => e = .returned (.int .i64 (c3 s).1) ∧ St W w' (rdrA W 87 g (c3 s).2 :: R) := by
  have e : c3 s = t.int := by unfold c3; rw [ht]; exact oqI_take hb
  rw [e]
  exact qInt hS pk
theorem cskip4 {s : Rs} (h : hasC (cv s) 16 = false) : c4 s = (0, (c3 s).2) := by unfold c4; exact oqI_skip h
theorem cq4 {w : World} {L R : List Asn} {g : Nat} {s t : Rs} (hb : hasC (cv s) 16 = true) (hS : St W w L) (pk : Pick L (rdrA W 87 g t) R) (ht : t = (c3 s).2) : Calls Try.prog 90 #[.pointer (some ⟨g, 0, none⟩)] w fun e w' => e = .returned (.int .i64 (c4 s).1) ∧ St W w' (rdrA W 87 g (c4 s).2 :: R) := by
  have e : c4 s = t.int := by unfold c4; rw [ht]; exact oqI_take hb
  rw [e]
  exact qInt hS pk
theorem cskip5 {s : Rs} (h : hasC (cv s) 2 = false) : c5 s = (0, (c4 s).2) := by unfold c5; exact oqU_skip h
theorem cq5 {w : World} {L R : List Asn} {g : Nat} {s t : Rs} (hb : hasC (cv s) 2 = true) (hS : St W w L) (pk : Pick L (rdrA W 87 g t) R) (ht : t = (c4 s).2) : Calls Try.prog 91 #[.pointer (some ⟨g, 0, none⟩), .int .u64 18446744073709551615] w fun e w' => e = .returned (.int .u64 ((c5 s).1 : Int)) ∧ St W w' (rdrA W 87 g (c5 s).2 :: R) := by
  have e : c5 s = t.nat allNat := by unfold c5; rw [ht]; exact oqU_take hb
  rw [e]
  exact qNat_all hS pk
theorem cskip6 {s : Rs} (h : hasC (cv s) 4 = false) : c6 s = (0, (c5 s).2) := by unfold c6; exact oqI_skip h
theorem cq6 {w : World} {L R : List Asn} {g : Nat} {s t : Rs} (hb : hasC (cv s) 4 = true) (hS : St W w L) (pk : Pick L (rdrA W 87 g t) R) (ht : t = (c5 s).2) : Calls Try.prog 90 #[.pointer (some ⟨g, 0, none⟩)] w fun e w' => e = .returned (.int .i64 (c6 s).1) ∧ St W w' (rdrA W 87 g (c6 s).2 :: R) := by
  have e : c6 s = t.int := by unfold c6; rw [ht]; exact oqI_take hb
  rw [e]
  exact qInt hS pk
theorem cskip7 {s : Rs} (h : hasC (cv s) 8 = false) : c7 s = (0, (c6 s).2) := by unfold c7; exact oqI_skip h
theorem cq7 {w : World} {L R : List Asn} {g : Nat} {s t : Rs} (hb : hasC (cv s) 8 = true) (hS : St W w L) (pk : Pick L (rdrA W 87 g t) R) (ht : t = (c6 s).2) : Calls Try.prog 90 #[.pointer (some ⟨g, 0, none⟩)] w fun e w' => e = .returned (.int .i64 (c7 s).1) ∧ St W w' (rdrA W 87 g (c7 s).2 :: R) := by
  have e : c7 s = t.int := by unfold c7; rw [ht]; exact oqI_take hb
  rw [e]
  exact qInt hS pk
theorem cskip8 {s : Rs} (h : hasC (cv s) 32 = false) : c8 s = (0, (c7 s).2) := by unfold c8; exact oqI_skip h
theorem cq8 {w : World} {L R : List Asn} {g : Nat} {s t : Rs} (hb : hasC (cv s) 32 = true) (hS : St W w L) (pk : Pick L (rdrA W 87 g t) R) (ht : t = (c7 s).2) : Calls Try.prog 90 #[.pointer (some ⟨g, 0, none⟩)] w fun e w' => e = .returned (.int .i64 (c8 s).1) ∧ St W w' (rdrA W 87 g (c8 s).2 :: R) := by
  have e : c8 s = t.int := by unfold c8; rw [ht]; exact oqI_take hb
  rw [e]
  exact qInt hS pk
theorem cskip9 {s : Rs} (h : hasC (cv s) 64 = false) : c9 s = (0, (c8 s).2) := by unfold c9; exact oqI_skip h
theorem cq9 {w : World} {L R : List Asn} {g : Nat} {s t : Rs} (hb : hasC (cv s) 64 = true) (hS : St W w L) (pk : Pick L (rdrA W 87 g t) R) (ht : t = (c8 s).2) : Calls Try.prog 90 #[.pointer (some ⟨g, 0, none⟩)] w fun e w' => e = .returned (.int .i64 (c9 s).1) ∧ St W w' (rdrA W 87 g (c9 s).2 :: R) := by
  have e : c9 s = t.int := by unfold c9; rw [ht]; exact oqI_take hb
  rw [e]
  exact qInt hS pk
theorem cskip10 {s : Rs} (h : hasC (cv s) 128 = false) : c10 s = (0, (c9 s).2) := by unfold c10; exact oqI_skip h
theorem cq10 {w : World} {L R : List Asn} {g : Nat} {s t : Rs} (hb : hasC (cv s) 128 = true) (hS : St W w L) (pk : Pick L (rdrA W 87 g t) R) (ht : t = (c9 s).2) : Calls Try.prog 90 #[.pointer (some ⟨g, 0, none⟩)] w fun e w' => e = .returned (.int .i64 (c10 s).1) ∧ St W w' (rdrA W 87 g (c10 s).2 :: R) := by
  have e : c10 s = t.int := by unfold c10; rw [ht]; exact oqI_take hb
  rw [e]
  exact qInt hS pk
theorem cskip11 {s : Rs} (h : hasC (cv s) 256 = false) : c11 s = (0, (c10 s).2) := by unfold c11; exact oqI_skip h
theorem cq11 {w : World} {L R : List Asn} {g : Nat} {s t : Rs} (hb : hasC (cv s) 256 = true) (hS : St W w L) (pk : Pick L (rdrA W 87 g t) R) (ht : t = (c10 s).2) : Calls Try.prog 90 #[.pointer (some ⟨g, 0, none⟩)] w fun e w' => e = .returned (.int .i64 (c11 s).1) ∧ St W w' (rdrA W 87 g (c11 s).2 :: R) := by
  have e : c11 s = t.int := by unfold c11; rw [ht]; exact oqI_take hb
  rw [e]
  exact qInt hS pk
theorem cskip12 {s : Rs} (h : hasC (cv s) 512 = false) : c12 s = (0, (c11 s).2) := by unfold c12; exact oqU_skip h
theorem cq12 {w : World} {L R : List Asn} {g : Nat} {s t : Rs} (hb : hasC (cv s) 512 = true) (hS : St W w L) (pk : Pick L (rdrA W 87 g t) R) (ht : t = (c11 s).2) : Calls Try.prog 91 #[.pointer (some ⟨g, 0, none⟩), .int .u64 18446744073709551615] w fun e w' => e = .returned (.int .u64 ((c12 s).1 : Int)) ∧ St W w' (rdrA W 87 g (c12 s).2 :: R) := by
  have e : c12 s = t.nat allNat := by unfold c12; rw [ht]; exact oqU_take hb
  rw [e]
  exact qNat_all hS pk
attribute [local irreducible] blkA rowA rdrA c0 c1 c2 c3 c4 c5 c6 c7 c8 c9 c10 c11 c12 c13 cv
set_option maxHeartbeats 16000000 in
set_option maxRecDepth 100000 in
theorem qcread_calls {A : Option Addr} {c : Nat} {bs : List UInt8} (hR : RdB W A bs) (hc : bs.length ≤ c ∧ bs.length ≤ 9223372036854775807) : Calls Try.prog 47 #[.slice A bs.length c] W fun e w' => ∃ (x : CmdV) (er : Int), e = .returned (.tuple #[.agg x.cells.toArray, .int .i64 er]) ∧ CmBy x ∧ OutC bs x er ∧ St W w' [rdsA (cmR x)] := by
  have hS := St.init W
  obtain ⟨s, hs⟩ : ∃ s : Rs, s = ⟨bs, false⟩ := ⟨_, rfl⟩
  have hn0 : (c0 s).1 ≤ 15 := c0_le s
  refine calls_of_wpE (args := [_]) Try.func47 rfl rfl rfl ?_
  refine c_seq ?_
  refine c_region ?_
  refine t_alloc Try.zeroValue49 rfl hS (fun g2 w hS => ?_)
  refine t_q (q_assign) ?_
  refine t_nil ?_
  refine c_seq ?_
  refine c_seq ?_
  refine c_region ?_
  refine t_q (q_mv (.slice _ _ _) rfl) ?_
  refine t_q (q_len_slice Try.runUnderlying74 rfl) ?_
  refine t_q (q_gtr rfl rfl) ?_
  refine t_nil ?_
  refine c_cond rfl ?_ ?_
  · intro hc2
    have hc2d := of_decide_eq_true hc2
    have hlen := hc2
    refine c_seq ?_
    refine c_region ?_
    refine t_q (q_build (qs := [(0, 1), (1, 1), (2, 1), (3, 1), (4, 1), (5, 1), (6, 1), (7, 1), (8, 1), (9, 1), (10, 1), (11, 1), (12, 1), (13, 9)]) [(.int _ _), (.int _ _), (.int _ _), (.int _ _), (.int _ _), (.int _ _), (.int _ _), (.int _ _), (.int _ _), (.int _ _), (.int _ _), (.int _ _), (.int _ _), (.int _ _), (.slice _ _ _), (.int _ _), (.int _ _), (.slice _ _ _), (.int _ _), (.int _ _), (.int _ _), (.int _ _)] Try.zeroValue49 Try.runUnderlying49 ⟨rfl, Try.sizeOf3, rfl, Try.sizeOf26, rfl, Try.sizeOf26, rfl, Try.sizeOf3, rfl, Try.sizeOf26, rfl, Try.sizeOf3, rfl, Try.sizeOf3, rfl, Try.sizeOf3, rfl, Try.sizeOf2, rfl, Try.sizeOf2, rfl, Try.sizeOf3, rfl, Try.sizeOf3, rfl, Try.sizeOf26, rfl, Try.sizeOf47, trivial⟩ rfl rfl) ?_
    refine t_store (v := (.agg _)) Try.sizeOf49 hS (by repeat first | exact .here _ _ | assumption | apply Pick.there) rfl rfl rfl rfl rfl rfl (fun w hS => ?_)
    replace hS := hS.recast (congrArg (blkA g2 49) (setN_full (vs := zC.cells) (cmd_len zC).symm))
    refine t_q (q_assign) ?_
    refine t_nil ?_
    refine c_ret ?_
    refine r_two rfl (res1_cellN Try.isAgg49 Try.sizeOf49 rfl (hS.blk (by repeat first | exact .here _ _ | assumption | apply Pick.there)) rfl) rfl ?_
    first
      | exact ⟨zC, 21, rfl, zC_by, outC_big (by omega), zC_rds hS⟩
      | exact ⟨zC, 20, rfl, zC_by, hD, zC_rds hS⟩
      | exact ⟨mkC s r, 0, rfl, mkC_by hr, hD, mkC_rds hS (by repeat first | exact .here _ _ | assumption | apply Pick.there) (by repeat first | exact .here _ _ | assumption | apply Pick.there)⟩
  · intro hc2
    have hc2d := of_decide_eq_false hc2
    refine c_skip ?_
    refine c_seq ?_
    refine c_region ?_
    refine t_q (q_mv (.slice _ _ _) rfl) ?_
    refine t_q (q_build (qs := [(0, 1), (1, 1)]) [(.slice _ _ _), (.bool _)] Try.zeroValue87 Try.runUnderlying87 ⟨rfl, Try.sizeOf74, rfl, Try.sizeOf4, trivial⟩ rfl rfl) ?_
    refine t_box (v := (.agg _)) rfl rfl hS (fun g13 w hS => ?_)
    replace hS := hS.recast (show _ = blkA g13 87 [.slice A bs.length c, .bool false] from rfl)
    replace hS := St.unrdr (V := W) (s := s) hS (by rw [hs]) (by rw [hs]) (by rw [hs]; exact hR) (by rw [hs]; exact hc)
    refine t_q (q_as (.pointer _) rfl) ?_
    refine t_nil ?_
    refine c_seq ?_
    refine c_region ?_
    refine t_q (q_assign) ?_
    refine t_nil ?_
    refine c_cut [6, 14, 15, 16, 17, 18, 19, 20, 21, 22] (fun σ w => ∃ g6 : Nat, σ 6 = .pointer (some ⟨g6, 0, none⟩) ∧ St W w [rdrA W 87 g13 (c2 s).2, blkA g6 49 [.int .i64 (((c0 s).1 : Nat) : Int), .int .u64 (((c1 s).1 : Nat) : Int), .int .u64 (((c2 s).1 : Nat) : Int), .int .i64 0, .int .u64 0, .int .i64 0, .int .i64 0, .int .i64 0, .int .i64 0, .int .i64 0, .int .i64 0, .int .i64 0, .int .u64 0, .int .i64 0, .slice none 0 0, .int .i64 0, .int .i64 0, .slice none 0 0, .int .i64 0, .int .i64 0, .int .i64 0, .int .i64 0], blkA g2 49 [.int .i64 0, .int .u64 0, .int .u64 0, .int .i64 0, .int .u64 0, .int .i64 0, .int .i64 0, .int .i64 0, .int .i64 0, .int .i64 0, .int .i64 0, .int .i64 0, .int .u64 0, .int .i64 0, .slice none 0 0, .int .i64 0, .int .i64 0, .slice none 0 0, .int .i64 0, .int .i64 0, .int .i64 0, .int .i64 0]]) rfl ?_ ?_
    ·
      refine c_region ?_
      refine t_q (q_mv (.pointer _) rfl) ?_
      refine t_call Try.call91 (cqn0 (s := s) hS (by repeat first | exact .here _ _ | assumption | apply Pick.there)) rfl ?_
      rintro e w ⟨rfl, hS⟩
      refine ⟨_, rfl, ?_⟩
      refine t_q (q_conv_i64 Try.runUnderlying26 Try.runUnderlying3 rfl (by omega)) ?_
      refine t_q (q_mv (.pointer _) rfl) ?_
      refine t_call Try.call91 (cqn1 (s := s) hS (by repeat first | exact .here _ _ | assumption | apply Pick.there)) rfl ?_
      rintro e w ⟨rfl, hS⟩
      refine ⟨_, rfl, ?_⟩
      refine t_q (q_mv (.pointer _) rfl) ?_
      refine t_q (q_mv (.int _ _) rfl) ?_
      refine t_call Try.call91 (cqn2 (s := s) hS (by repeat first | exact .here _ _ | assumption | apply Pick.there)) rfl ?_
      rintro e w ⟨rfl, hS⟩
      refine ⟨_, rfl, ?_⟩
      refine t_q (q_build (qs := [(0, 1), (1, 1), (2, 1), (3, 1), (4, 1), (5, 1), (6, 1), (7, 1), (8, 1), (9, 1), (10, 1), (11, 1), (12, 1), (13, 9)]) [.int .i64 (((c0 s).1 : Nat) : Int), .int .u64 (((c1 s).1 : Nat) : Int), .int .u64 (((c2 s).1 : Nat) : Int), .int .i64 0, .int .u64 0, .int .i64 0, .int .i64 0, .int .i64 0, .int .i64 0, .int .i64 0, .int .i64 0, .int .i64 0, .int .u64 0, .int .i64 0, .slice none 0 0, .int .i64 0, .int .i64 0, .slice none 0 0, .int .i64 0, .int .i64 0, .int .i64 0, .int .i64 0] Try.zeroValue49 Try.runUnderlying49 ⟨rfl, Try.sizeOf3, rfl, Try.sizeOf26, rfl, Try.sizeOf26, rfl, Try.sizeOf3, rfl, Try.sizeOf26, rfl, Try.sizeOf3, rfl, Try.sizeOf3, rfl, Try.sizeOf3, rfl, Try.sizeOf2, rfl, Try.sizeOf2, rfl, Try.sizeOf3, rfl, Try.sizeOf3, rfl, Try.sizeOf26, rfl, Try.sizeOf47, trivial⟩ rfl rfl) ?_
      refine t_alloc Try.zeroValue49 rfl hS (fun g6 w hS => ?_)
      refine t_store (v := (.agg _)) Try.sizeOf49 hS (by repeat first | exact .here _ _ | assumption | apply Pick.there) rfl rfl rfl rfl rfl rfl (fun w hS => ?_)
      replace hS := hS.recast (congrArg (blkA g6 49) (setN_full (vs := [.int .i64 (((c0 s).1 : Nat) : Int), .int .u64 (((c1 s).1 : Nat) : Int), .int .u64 (((c2 s).1 : Nat) : Int), .int .i64 0, .int .u64 0, .int .i64 0, .int .i64 0, .int .i64 0, .int .i64 0, .int .i64 0, .int .i64 0, .int .i64 0, .int .u64 0, .int .i64 0, .slice none 0 0, .int .i64 0, .int .i64 0, .slice none 0 0, .int .i64 0, .int .i64 0, .int .i64 0, .int .i64 0]) rfl))
      refine t_nil ?_
      exact ⟨g6, rfl, (((hS.pick (A := blkA g2 49 [.int .i64 0, .int .u64 0, .int .u64 0, .int .i64 0, .int .u64 0, .int .i64 0, .int .i64 0, .int .i64 0, .int .i64 0, .int .i64 0, .int .i64 0, .int .i64 0, .int .u64 0, .int .i64 0, .slice none 0 0, .int .i64 0, .int .i64 0, .slice none 0 0, .int .i64 0, .int .i64 0, .int .i64 0, .int .i64 0]) (by repeat first | exact .here _ _ | assumption | apply Pick.there)).pick (A := blkA g6 49 _) (by repeat first | exact .here _ _ | assumption | apply Pick.there)).pick (A := rdrA W 87 g13 _) (by repeat first | exact .here _ _ | assumption | apply Pick.there)).front3⟩
    ·
      rintro σ w ⟨g6, h6, hS⟩
      refine c_know 6 h6 ?_
      refine c_cut [23, 24, 25, 26, 27, 28, 29, 30, 31, 32, 33, 34, 35, 36, 37, 38, 39, 40, 41, 42, 43, 44, 45, 46, 47, 48, 49, 50, 51, 52, 53, 54, 55, 56, 57, 58, 59, 60, 61, 62, 63, 64, 65, 66, 67, 68, 69, 70, 71, 72, 73, 74, 75, 76, 77, 78, 79, 80, 81, 82, 83, 84, 85, 86, 87, 88, 89, 90, 91, 92, 93, 94, 95, 96, 97, 98, 99, 100] (fun σ w => ∃ r : RuV, (∃ A c B d, r = cR s A c B d) ∧ St W w [rdrA W 87 g13 (c13 s), blkA g6 49 [.int .i64 (((c0 s).1 : Nat) : Int), .int .u64 (((c1 s).1 : Nat) : Int), .int .u64 (((c2 s).1 : Nat) : Int), .int .i64 ((c3 s).1), .int .u64 (((c5 s).1 : Nat) : Int), .int .i64 ((c6 s).1), .int .i64 ((c7 s).1), .int .i64 ((c4 s).1), .int .i64 ((c8 s).1), .int .i64 ((c9 s).1), .int .i64 ((c11 s).1), .int .i64 ((c10 s).1), .int .u64 (((c12 s).1 : Nat) : Int), .int .i64 r.version, .slice r.ticks.A r.ticks.l.length r.ticks.c, .int .i64 r.lot, .int .i64 r.band, .slice r.fees.A r.fees.l.length r.fees.c, .int .i64 r.round, .int .i64 r.priority, .int .i64 r.self, .int .i64 r.layout], blkA g2 49 [.int .i64 0, .int .u64 0, .int .u64 0, .int .i64 0, .int .u64 0, .int .i64 0, .int .i64 0, .int .i64 0, .int .i64 0, .int .i64 0, .int .i64 0, .int .i64 0, .int .u64 0, .int .i64 0, .slice none 0 0, .int .i64 0, .int .i64 0, .slice none 0 0, .int .i64 0, .int .i64 0, .int .i64 0, .int .i64 0], rowA 168 2 r.ticks.A r.ticks.l.length r.ticks.c (r.ticks.l.flatMap Tk.cells), rowA 170 3 r.fees.A r.fees.l.length r.fees.c (r.fees.l.flatMap Tr.cells)]) rfl ?_ ?_
      ·
        refine c_seq ?_
        refine c_region ?_
        refine t_q (q_fieldAddr 0 Try.runUnderlying49 rfl Try.sizeOf3 (by decide) rfl rfl) ?_
        refine t_q (q_load1 Try.isAgg3 rfl (hS.cell (by repeat first | exact .here _ _ | assumption | apply Pick.there) rfl)) ?_
        refine t_nil ?_
        refine c_block ?_
        refine c_cut [25, 26, 27] (fun σ w => σ 25 = .bool (decide ((((c0 s).1 : Nat) : Int) = 1 ∨ (((c0 s).1 : Nat) : Int) = 2)) ∧ St W w [rdrA W 87 g13 (c2 s).2, blkA g6 49 [.int .i64 (((c0 s).1 : Nat) : Int), .int .u64 (((c1 s).1 : Nat) : Int), .int .u64 (((c2 s).1 : Nat) : Int), .int .i64 0, .int .u64 0, .int .i64 0, .int .i64 0, .int .i64 0, .int .i64 0, .int .i64 0, .int .i64 0, .int .i64 0, .int .u64 0, .int .i64 0, .slice none 0 0, .int .i64 0, .int .i64 0, .slice none 0 0, .int .i64 0, .int .i64 0, .int .i64 0, .int .i64 0], blkA g2 49 [.int .i64 0, .int .u64 0, .int .u64 0, .int .i64 0, .int .u64 0, .int .i64 0, .int .i64 0, .int .i64 0, .int .i64 0, .int .i64 0, .int .i64 0, .int .i64 0, .int .u64 0, .int .i64 0, .slice none 0 0, .int .i64 0, .int .i64 0, .slice none 0 0, .int .i64 0, .int .i64 0, .int .i64 0, .int .i64 0]]) rfl ?_ ?_
        ·
          refine c_seq ?_
          refine c_region ?_
          refine t_q (q_eql rfl rfl) ?_
          refine t_q (q_as (.bool _) rfl) ?_
          refine t_nil ?_
          refine c_cond rfl ?_ ?_
          · intro hc7
            have hc7d := of_decide_eq_true hc7
            have hk1 : (((c0 s).1 : Nat) : Int) = 1 ∨ (((c0 s).1 : Nat) : Int) = 2 := by first | exact of_decide_eq_true hc7 | exact .inl (of_decide_eq_true hc7) | exact .inr (of_decide_eq_true hc7)
            have hv : cv s = 81 := by
              rcases hk1 with h | h
              · exact cv_of h (by decide)
              · exact cv_of h (by decide)
            have hb1 : hasC (cv s) 1 = true := by rw [hv]; decide
            have hb16 : hasC (cv s) 16 = true := by rw [hv]; decide
            have hb2 : hasC (cv s) 2 = false := by rw [hv]; decide
            have e5 := cskip5 hb2
            have hb4 : hasC (cv s) 4 = false := by rw [hv]; decide
            have e6 := cskip6 hb4
            have hb8 : hasC (cv s) 8 = false := by rw [hv]; decide
            have e7 := cskip7 hb8
            have hb32 : hasC (cv s) 32 = false := by rw [hv]; decide
            have e8 := cskip8 hb32
            have hb64 : hasC (cv s) 64 = true := by rw [hv]; decide
            have hb128 : hasC (cv s) 128 = false := by rw [hv]; decide
            have e10 := cskip10 hb128
            have hb256 : hasC (cv s) 256 = false := by rw [hv]; decide
            have e11 := cskip11 hb256
            have hb512 : hasC (cv s) 512 = false := by rw [hv]; decide
            have e12 := cskip12 hb512
            have hb1024 : hasC (cv s) 1024 = false := by rw [hv]; decide
            have e13 := c13_skip hb1024
            refine c_skip ?_
            exact ⟨congrArg Value.bool (by
              first
                | (rw [decide_eq_decide]; omega)
                | (symm; apply decide_eq_true; omega)), (((hS.pick (A := blkA g2 49 [.int .i64 0, .int .u64 0, .int .u64 0, .int .i64 0, .int .u64 0, .int .i64 0, .int .i64 0, .int .i64 0, .int .i64 0, .int .i64 0, .int .i64 0, .int .i64 0, .int .u64 0, .int .i64 0, .slice none 0 0, .int .i64 0, .int .i64 0, .slice none 0 0, .int .i64 0, .int .i64 0, .int .i64 0, .int .i64 0]) (by repeat first | exact .here _ _ | assumption | apply Pick.there)).pick (A := blkA g6 49 _) (by repeat first | exact .here _ _ | assumption | apply Pick.there)).pick (A := rdrA W 87 g13 _) (by repeat first | exact .here _ _ | assumption | apply Pick.there)).front3⟩
          · intro hc7
            have hc7d := of_decide_eq_false hc7
            first
              | have hk1 : ¬ ((((c0 s).1 : Nat) : Int) = 1 ∨ (((c0 s).1 : Nat) : Int) = 2) := of_decide_eq_false hc7
              | skip
            refine c_region ?_
            refine t_q (q_eql rfl rfl) ?_
            refine t_q (q_as (.bool _) rfl) ?_
            refine t_nil ?_
            exact ⟨congrArg Value.bool (by
              first
                | (rw [decide_eq_decide]; omega)
                | (symm; apply decide_eq_true; omega)), (((hS.pick (A := blkA g2 49 [.int .i64 0, .int .u64 0, .int .u64 0, .int .i64 0, .int .u64 0, .int .i64 0, .int .i64 0, .int .i64 0, .int .i64 0, .int .i64 0, .int .i64 0, .int .i64 0, .int .u64 0, .int .i64 0, .slice none 0 0, .int .i64 0, .int .i64 0, .slice none 0 0, .int .i64 0, .int .i64 0, .int .i64 0, .int .i64 0]) (by repeat first | exact .here _ _ | assumption | apply Pick.there)).pick (A := blkA g6 49 _) (by repeat first | exact .here _ _ | assumption | apply Pick.there)).pick (A := rdrA W 87 g13 _) (by repeat first | exact .here _ _ | assumption | apply Pick.there)).front3⟩
        ·
          rintro σ w ⟨h25, hS⟩
          refine c_know 25 h25 ?_
          refine c_cond rfl ?_ ?_
          · intro hc10
            have hk1 : (((c0 s).1 : Nat) : Int) = 1 ∨ (((c0 s).1 : Nat) : Int) = 2 := by first | exact of_decide_eq_true hc10 | exact .inl (of_decide_eq_true hc10) | exact .inr (of_decide_eq_true hc10)
            have hv : cv s = 81 := by
              rcases hk1 with h | h
              · exact cv_of h (by decide)
              · exact cv_of h (by decide)
            have hb1 : hasC (cv s) 1 = true := by rw [hv]; decide
            have hb16 : hasC (cv s) 16 = true := by rw [hv]; decide
            have hb2 : hasC (cv s) 2 = false := by rw [hv]; decide
            have e5 := cskip5 hb2
            have hb4 : hasC (cv s) 4 = false := by rw [hv]; decide
            have e6 := cskip6 hb4
            have hb8 : hasC (cv s) 8 = false := by rw [hv]; decide
            have e7 := cskip7 hb8
            have hb32 : hasC (cv s) 32 = false := by rw [hv]; decide
            have e8 := cskip8 hb32
            have hb64 : hasC (cv s) 64 = true := by rw [hv]; decide
            have hb128 : hasC (cv s) 128 = false := by rw [hv]; decide
            have e10 := cskip10 hb128
            have hb256 : hasC (cv s) 256 = false := by rw [hv]; decide
            have e11 := cskip11 hb256
            have hb512 : hasC (cv s) 512 = false := by rw [hv]; decide
            have e12 := cskip12 hb512
            have hb1024 : hasC (cv s) 1024 = false := by rw [hv]; decide
            have e13 := c13_skip hb1024
            refine c_seq ?_
            refine c_region ?_
            refine t_q (q_mv (.pointer _) rfl) ?_
            refine t_call Try.call90 (cq3 (s := s) hb1 hS (by repeat first | exact .here _ _ | assumption | apply Pick.there) rfl) rfl ?_
            rintro e w ⟨rfl, hS⟩
            refine ⟨_, rfl, ?_⟩
            refine t_q (q_fieldAddr 3 Try.runUnderlying49 rfl Try.sizeOf3 (by decide) rfl rfl) ?_
            refine t_store (v := (.int _ _)) Try.sizeOf3 hS (by repeat first | exact .here _ _ | assumption | apply Pick.there) rfl rfl rfl rfl rfl rfl (fun w hS => ?_)
            replace hS := hS.recast (show blkA g6 49 _ = blkA g6 49 [.int .i64 (((c0 s).1 : Nat) : Int), .int .u64 (((c1 s).1 : Nat) : Int), .int .u64 (((c2 s).1 : Nat) : Int), .int .i64 ((c3 s).1), .int .u64 0, .int .i64 0, .int .i64 0, .int .i64 0, .int .i64 0, .int .i64 0, .int .i64 0, .int .i64 0, .int .u64 0, .int .i64 0, .slice none 0 0, .int .i64 0, .int .i64 0, .slice none 0 0, .int .i64 0, .int .i64 0, .int .i64 0, .int .i64 0] from rfl)
            refine t_nil ?_
            refine c_seq ?_
            refine c_region ?_
            refine t_q (q_mv (.pointer _) rfl) ?_
            refine t_call Try.call90 (cq4 (s := s) hb16 hS (by repeat first | exact .here _ _ | assumption | apply Pick.there) rfl) rfl ?_
            rintro e w ⟨rfl, hS⟩
            refine ⟨_, rfl, ?_⟩
            refine t_q (q_fieldAddr 7 Try.runUnderlying49 rfl Try.sizeOf3 (by decide) rfl rfl) ?_
            refine t_store (v := (.int _ _)) Try.sizeOf3 hS (by repeat first | exact .here _ _ | assumption | apply Pick.there) rfl rfl rfl rfl rfl rfl (fun w hS => ?_)
            replace hS := hS.recast (show blkA g6 49 _ = blkA g6 49 [.int .i64 (((c0 s).1 : Nat) : Int), .int .u64 (((c1 s).1 : Nat) : Int), .int .u64 (((c2 s).1 : Nat) : Int), .int .i64 ((c3 s).1), .int .u64 0, .int .i64 0, .int .i64 0, .int .i64 ((c4 s).1), .int .i64 0, .int .i64 0, .int .i64 0, .int .i64 0, .int .u64 0, .int .i64 0, .slice none 0 0, .int .i64 0, .int .i64 0, .slice none 0 0, .int .i64 0, .int .i64 0, .int .i64 0, .int .i64 0] from rfl)
            refine t_nil ?_
            refine c_region ?_
            refine t_q (q_mv (.pointer _) rfl) ?_
            refine t_call Try.call90 (cq9 (s := s) hb64 hS (by repeat first | exact .here _ _ | assumption | apply Pick.there) (by first | rfl | rw [e8, e7, e6, e5])) rfl ?_
            rintro e w ⟨rfl, hS⟩
            refine ⟨_, rfl, ?_⟩
            refine t_q (q_fieldAddr 9 Try.runUnderlying49 rfl Try.sizeOf2 (by decide) rfl rfl) ?_
            refine t_store (v := (.int _ _)) Try.sizeOf2 hS (by repeat first | exact .here _ _ | assumption | apply Pick.there) rfl rfl rfl rfl rfl rfl (fun w hS => ?_)
            replace hS := hS.recast (show blkA g6 49 _ = blkA g6 49 [.int .i64 (((c0 s).1 : Nat) : Int), .int .u64 (((c1 s).1 : Nat) : Int), .int .u64 (((c2 s).1 : Nat) : Int), .int .i64 ((c3 s).1), .int .u64 0, .int .i64 0, .int .i64 0, .int .i64 ((c4 s).1), .int .i64 0, .int .i64 ((c9 s).1), .int .i64 0, .int .i64 0, .int .u64 0, .int .i64 0, .slice none 0 0, .int .i64 0, .int .i64 0, .slice none 0 0, .int .i64 0, .int .i64 0, .int .i64 0, .int .i64 0] from rfl)
            refine t_nil ?_
            replace hS := (hS.pick (A := blkA g6 49 _) (by repeat first | exact .here _ _ | assumption | apply Pick.there)).recast (show _ = blkA g6 49 [.int .i64 (((c0 s).1 : Nat) : Int), .int .u64 (((c1 s).1 : Nat) : Int), .int .u64 (((c2 s).1 : Nat) : Int), .int .i64 ((c3 s).1), .int .u64 (((c5 s).1 : Nat) : Int), .int .i64 ((c6 s).1), .int .i64 ((c7 s).1), .int .i64 ((c4 s).1), .int .i64 ((c8 s).1), .int .i64 ((c9 s).1), .int .i64 ((c11 s).1), .int .i64 ((c10 s).1), .int .u64 (((c12 s).1 : Nat) : Int), .int .i64 ruZ.version, .slice ruZ.ticks.A ruZ.ticks.l.length ruZ.ticks.c, .int .i64 ruZ.lot, .int .i64 ruZ.band, .slice ruZ.fees.A ruZ.fees.l.length ruZ.fees.c, .int .i64 ruZ.round, .int .i64 ruZ.priority, .int .i64 ruZ.self, .int .i64 ruZ.layout] from by rw [e12, e11, e10, e8, e7, e6, e5]; rfl)
            replace hS := (hS.pick (A := rdrA W 87 g13 _) (by repeat first | exact .here _ _ | assumption | apply Pick.there)).recast (show _ = rdrA W 87 g13 (c13 s) from by rw [e13, e12, e11, e10])
            exact ⟨ruZ, ⟨none, 0, none, 0, (cR_no hb1024 _ _ _ _).symm⟩, (((((((hS.nilrow 168 2).nilrow 170 3).pick (A := rowA 170 3 none 0 0 []) (by repeat first | exact .here _ _ | assumption | apply Pick.there)).pick (A := rowA 168 2 none 0 0 []) (by repeat first | exact .here _ _ | assumption | apply Pick.there)).pick (A := blkA g2 49 [.int .i64 0, .int .u64 0, .int .u64 0, .int .i64 0, .int .u64 0, .int .i64 0, .int .i64 0, .int .i64 0, .int .i64 0, .int .i64 0, .int .i64 0, .int .i64 0, .int .u64 0, .int .i64 0, .slice none 0 0, .int .i64 0, .int .i64 0, .slice none 0 0, .int .i64 0, .int .i64 0, .int .i64 0, .int .i64 0]) (by repeat first | exact .here _ _ | assumption | apply Pick.there)).pick (A := blkA g6 49 _) (by repeat first | exact .here _ _ | assumption | apply Pick.there)).pick (A := rdrA W 87 g13 _) (by repeat first | exact .here _ _ | assumption | apply Pick.there)).front5⟩
          · intro hc10
            first
              | have hk1 : ¬ ((((c0 s).1 : Nat) : Int) = 1 ∨ (((c0 s).1 : Nat) : Int) = 2) := of_decide_eq_false hc10
              | skip
            refine c_cut [37, 38, 39, 40] (fun σ w => σ 37 = .bool (decide ((((c0 s).1 : Nat) : Int) = 3 ∨ (((c0 s).1 : Nat) : Int) = 4 ∨ (((c0 s).1 : Nat) : Int) = 5)) ∧ St W w [rdrA W 87 g13 (c2 s).2, blkA g6 49 [.int .i64 (((c0 s).1 : Nat) : Int), .int .u64 (((c1 s).1 : Nat) : Int), .int .u64 (((c2 s).1 : Nat) : Int), .int .i64 0, .int .u64 0, .int .i64 0, .int .i64 0, .int .i64 0, .int .i64 0, .int .i64 0, .int .i64 0, .int .i64 0, .int .u64 0, .int .i64 0, .slice none 0 0, .int .i64 0, .int .i64 0, .slice none 0 0, .int .i64 0, .int .i64 0, .int .i64 0, .int .i64 0], blkA g2 49 [.int .i64 0, .int .u64 0, .int .u64 0, .int .i64 0, .int .u64 0, .int .i64 0, .int .i64 0, .int .i64 0, .int .i64 0, .int .i64 0, .int .i64 0, .int .i64 0, .int .u64 0, .int .i64 0, .slice none 0 0, .int .i64 0, .int .i64 0, .slice none 0 0, .int .i64 0, .int .i64 0, .int .i64 0, .int .i64 0]]) rfl ?_ ?_
            ·
              refine c_seq ?_
              refine c_region ?_
              refine t_q (q_eql rfl rfl) ?_
              refine t_q (q_as (.bool _) rfl) ?_
              refine t_nil ?_
              refine c_cond rfl ?_ ?_
              · intro hc15
                have hc15d := of_decide_eq_true hc15
                have hk3 : (((c0 s).1 : Nat) : Int) = 3 ∨ (((c0 s).1 : Nat) : Int) = 4 ∨ (((c0 s).1 : Nat) : Int) = 5 := by first | exact of_decide_eq_true hc15 | exact .inl (of_decide_eq_true hc15) | exact .inr (.inl (of_decide_eq_true hc15)) | exact .inr (.inr (of_decide_eq_true hc15))
                have hv3 : cv s = 111 ∨ cv s = 99 ∨ cv s = 3 := by
                  rcases hk3 with h | h | h
                  · exact .inl (cv_of h (by decide))
                  · exact .inr (.inr (cv_of h (by decide)))
                  · exact .inr (.inl (cv_of h (by decide)))
                have hb1 : hasC (cv s) 1 = true := by rcases hv3 with h | h | h <;> rw [h] <;> decide
                have hb2 : hasC (cv s) 2 = true := by rcases hv3 with h | h | h <;> rw [h] <;> decide
                have e4 := cskip4 (s := s) (by rcases hv3 with h | h | h <;> rw [h] <;> decide)
                refine c_skip ?_
                exact ⟨congrArg Value.bool (by
                  first
                    | (rw [decide_eq_decide]; omega)
                    | (symm; apply decide_eq_true; omega)), (((hS.pick (A := blkA g2 49 [.int .i64 0, .int .u64 0, .int .u64 0, .int .i64 0, .int .u64 0, .int .i64 0, .int .i64 0, .int .i64 0, .int .i64 0, .int .i64 0, .int .i64 0, .int .i64 0, .int .u64 0, .int .i64 0, .slice none 0 0, .int .i64 0, .int .i64 0, .slice none 0 0, .int .i64 0, .int .i64 0, .int .i64 0, .int .i64 0]) (by repeat first | exact .here _ _ | assumption | apply Pick.there)).pick (A := blkA g6 49 _) (by repeat first | exact .here _ _ | assumption | apply Pick.there)).pick (A := rdrA W 87 g13 _) (by repeat first | exact .here _ _ | assumption | apply Pick.there)).front3⟩
              · intro hc15
                have hc15d := of_decide_eq_false hc15
                first
                  | have hk3 : ¬ ((((c0 s).1 : Nat) : Int) = 3 ∨ (((c0 s).1 : Nat) : Int) = 4 ∨ (((c0 s).1 : Nat) : Int) = 5) := of_decide_eq_false hc15
                  | skip
                refine c_seq ?_
                refine c_region ?_
                refine t_q (q_eql rfl rfl) ?_
                refine t_q (q_as (.bool _) rfl) ?_
                refine t_nil ?_
                refine c_cond rfl ?_ ?_
                · intro hc17
                  have hc17d := of_decide_eq_true hc17
                  have hk3 : (((c0 s).1 : Nat) : Int) = 3 ∨ (((c0 s).1 : Nat) : Int) = 4 ∨ (((c0 s).1 : Nat) : Int) = 5 := by first | exact of_decide_eq_true hc17 | exact .inl (of_decide_eq_true hc17) | exact .inr (.inl (of_decide_eq_true hc17)) | exact .inr (.inr (of_decide_eq_true hc17))
                  have hv3 : cv s = 111 ∨ cv s = 99 ∨ cv s = 3 := by
                    rcases hk3 with h | h | h
                    · exact .inl (cv_of h (by decide))
                    · exact .inr (.inr (cv_of h (by decide)))
                    · exact .inr (.inl (cv_of h (by decide)))
                  have hb1 : hasC (cv s) 1 = true := by rcases hv3 with h | h | h <;> rw [h] <;> decide
                  have hb2 : hasC (cv s) 2 = true := by rcases hv3 with h | h | h <;> rw [h] <;> decide
                  have e4 := cskip4 (s := s) (by rcases hv3 with h | h | h <;> rw [h] <;> decide)
                  refine c_skip ?_
                  exact ⟨congrArg Value.bool (by
                    first
                      | (rw [decide_eq_decide]; omega)
                      | (symm; apply decide_eq_true; omega)), (((hS.pick (A := blkA g2 49 [.int .i64 0, .int .u64 0, .int .u64 0, .int .i64 0, .int .u64 0, .int .i64 0, .int .i64 0, .int .i64 0, .int .i64 0, .int .i64 0, .int .i64 0, .int .i64 0, .int .u64 0, .int .i64 0, .slice none 0 0, .int .i64 0, .int .i64 0, .slice none 0 0, .int .i64 0, .int .i64 0, .int .i64 0, .int .i64 0]) (by repeat first | exact .here _ _ | assumption | apply Pick.there)).pick (A := blkA g6 49 _) (by repeat first | exact .here _ _ | assumption | apply Pick.there)).pick (A := rdrA W 87 g13 _) (by repeat first | exact .here _ _ | assumption | apply Pick.there)).front3⟩
                · intro hc17
                  have hc17d := of_decide_eq_false hc17
                  first
                    | have hk3 : ¬ ((((c0 s).1 : Nat) : Int) = 3 ∨ (((c0 s).1 : Nat) : Int) = 4 ∨ (((c0 s).1 : Nat) : Int) = 5) := of_decide_eq_false hc17
                    | skip
                  refine c_region ?_
                  refine t_q (q_eql rfl rfl) ?_
                  refine t_q (q_as (.bool _) rfl) ?_
                  refine t_nil ?_
                  exact ⟨congrArg Value.bool (by
                    first
                      | (rw [decide_eq_decide]; omega)
                      | (symm; apply decide_eq_true; omega)), (((hS.pick (A := blkA g2 49 [.int .i64 0, .int .u64 0, .int .u64 0, .int .i64 0, .int .u64 0, .int .i64 0, .int .i64 0, .int .i64 0, .int .i64 0, .int .i64 0, .int .i64 0, .int .i64 0, .int .u64 0, .int .i64 0, .slice none 0 0, .int .i64 0, .int .i64 0, .slice none 0 0, .int .i64 0, .int .i64 0, .int .i64 0, .int .i64 0]) (by repeat first | exact .here _ _ | assumption | apply Pick.there)).pick (A := blkA g6 49 _) (by repeat first | exact .here _ _ | assumption | apply Pick.there)).pick (A := rdrA W 87 g13 _) (by repeat first | exact .here _ _ | assumption | apply Pick.there)).front3⟩
            ·
              rintro σ w ⟨h37, hS⟩
              refine c_know 37 h37 ?_
              refine c_cond rfl ?_ ?_
              · intro hc20
                have hk3 : (((c0 s).1 : Nat) : Int) = 3 ∨ (((c0 s).1 : Nat) : Int) = 4 ∨ (((c0 s).1 : Nat) : Int) = 5 := by first | exact of_decide_eq_true hc20 | exact .inl (of_decide_eq_true hc20) | exact .inr (.inl (of_decide_eq_true hc20)) | exact .inr (.inr (of_decide_eq_true hc20))
                have hv3 : cv s = 111 ∨ cv s = 99 ∨ cv s = 3 := by
                  rcases hk3 with h | h | h
                  · exact .inl (cv_of h (by decide))
                  · exact .inr (.inr (cv_of h (by decide)))
                  · exact .inr (.inl (cv_of h (by decide)))
                have hb1 : hasC (cv s) 1 = true := by rcases hv3 with h | h | h <;> rw [h] <;> decide
                have hb2 : hasC (cv s) 2 = true := by rcases hv3 with h | h | h <;> rw [h] <;> decide
                have e4 := cskip4 (s := s) (by rcases hv3 with h | h | h <;> rw [h] <;> decide)
                refine c_seq ?_
                refine c_region ?_
                refine t_q (q_mv (.pointer _) rfl) ?_
                refine t_call Try.call90 (cq3 (s := s) hb1 hS (by repeat first | exact .here _ _ | assumption | apply Pick.there) rfl) rfl ?_
                rintro e w ⟨rfl, hS⟩
                refine ⟨_, rfl, ?_⟩
                refine t_q (q_fieldAddr 3 Try.runUnderlying49 rfl Try.sizeOf3 (by decide) rfl rfl) ?_
                refine t_store (v := (.int _ _)) Try.sizeOf3 hS (by repeat first | exact .here _ _ | assumption | apply Pick.there) rfl rfl rfl rfl rfl rfl (fun w hS => ?_)
                replace hS := hS.recast (show blkA g6 49 _ = blkA g6 49 [.int .i64 (((c0 s).1 : Nat) : Int), .int .u64 (((c1 s).1 : Nat) : Int), .int .u64 (((c2 s).1 : Nat) : Int), .int .i64 ((c3 s).1), .int .u64 0, .int .i64 0, .int .i64 0, .int .i64 0, .int .i64 0, .int .i64 0, .int .i64 0, .int .i64 0, .int .u64 0, .int .i64 0, .slice none 0 0, .int .i64 0, .int .i64 0, .slice none 0 0, .int .i64 0, .int .i64 0, .int .i64 0, .int .i64 0] from rfl)
                refine t_nil ?_
                refine c_seq ?_
                refine c_region ?_
                refine t_q (q_mv (.pointer _) rfl) ?_
                refine t_q (q_mv (.int _ _) rfl) ?_
                refine t_call Try.call91 (cq5 (s := s) hb2 hS (by repeat first | exact .here _ _ | assumption | apply Pick.there) (by first | rfl | rw [e4])) rfl ?_
                rintro e w ⟨rfl, hS⟩
                refine ⟨_, rfl, ?_⟩
                refine t_q (q_fieldAddr 4 Try.runUnderlying49 rfl Try.sizeOf26 (by decide) rfl rfl) ?_
                refine t_store (v := (.int _ _)) Try.sizeOf26 hS (by repeat first | exact .here _ _ | assumption | apply Pick.there) rfl rfl rfl rfl rfl rfl (fun w hS => ?_)
                replace hS := hS.recast (show blkA g6 49 _ = blkA g6 49 [.int .i64 (((c0 s).1 : Nat) : Int), .int .u64 (((c1 s).1 : Nat) : Int), .int .u64 (((c2 s).1 : Nat) : Int), .int .i64 ((c3 s).1), .int .u64 (((c5 s).1 : Nat) : Int), .int .i64 0, .int .i64 0, .int .i64 0, .int .i64 0, .int .i64 0, .int .i64 0, .int .i64 0, .int .u64 0, .int .i64 0, .slice none 0 0, .int .i64 0, .int .i64 0, .slice none 0 0, .int .i64 0, .int .i64 0, .int .i64 0, .int .i64 0] from rfl)
                refine t_nil ?_
                refine c_seq ?_
                refine c_seq ?_
                refine c_region ?_
                refine t_q (q_fieldAddr 0 Try.runUnderlying49 rfl Try.sizeOf3 (by decide) rfl rfl) ?_
                refine t_q (q_load1 Try.isAgg3 rfl (hS.cell (by repeat first | exact .here _ _ | assumption | apply Pick.there) rfl)) ?_
                refine t_q (q_eql rfl rfl) ?_
                refine t_nil ?_
                refine c_cond rfl ?_ ?_
                · intro hc24
                  have hc24d := of_decide_eq_true hc24
                  have hv : cv s = 111 := by first | exact cv_of (k := 3) (by omega) (by decide)
                  have hb1 : hasC (cv s) 1 = true := by rw [hv]; decide
                  have hb16 : hasC (cv s) 16 = false := by rw [hv]; decide
                  have e4 := cskip4 hb16
                  have hb2 : hasC (cv s) 2 = true := by rw [hv]; decide
                  have hb4 : hasC (cv s) 4 = true := by rw [hv]; decide
                  have hb8 : hasC (cv s) 8 = true := by rw [hv]; decide
                  have hb32 : hasC (cv s) 32 = true := by rw [hv]; decide
                  have hb64 : hasC (cv s) 64 = true := by rw [hv]; decide
                  have hb128 : hasC (cv s) 128 = false := by rw [hv]; decide
                  have e10 := cskip10 hb128
                  have hb256 : hasC (cv s) 256 = false := by rw [hv]; decide
                  have e11 := cskip11 hb256
                  have hb512 : hasC (cv s) 512 = false := by rw [hv]; decide
                  have e12 := cskip12 hb512
                  have hb1024 : hasC (cv s) 1024 = false := by rw [hv]; decide
                  have e13 := c13_skip hb1024
                  refine c_seq ?_
                  refine c_region ?_
                  refine t_q (q_mv (.pointer _) rfl) ?_
                  refine t_call Try.call90 (cq6 (s := s) hb4 hS (by repeat first | exact .here _ _ | assumption | apply Pick.there) rfl) rfl ?_
                  rintro e w ⟨rfl, hS⟩
                  refine ⟨_, rfl, ?_⟩
                  refine t_q (q_fieldAddr 5 Try.runUnderlying49 rfl Try.sizeOf3 (by decide) rfl rfl) ?_
                  refine t_store (v := (.int _ _)) Try.sizeOf3 hS (by repeat first | exact .here _ _ | assumption | apply Pick.there) rfl rfl rfl rfl rfl rfl (fun w hS => ?_)
                  replace hS := hS.recast (show blkA g6 49 _ = blkA g6 49 [.int .i64 (((c0 s).1 : Nat) : Int), .int .u64 (((c1 s).1 : Nat) : Int), .int .u64 (((c2 s).1 : Nat) : Int), .int .i64 ((c3 s).1), .int .u64 (((c5 s).1 : Nat) : Int), .int .i64 ((c6 s).1), .int .i64 0, .int .i64 0, .int .i64 0, .int .i64 0, .int .i64 0, .int .i64 0, .int .u64 0, .int .i64 0, .slice none 0 0, .int .i64 0, .int .i64 0, .slice none 0 0, .int .i64 0, .int .i64 0, .int .i64 0, .int .i64 0] from rfl)
                  refine t_nil ?_
                  refine c_region ?_
                  refine t_q (q_mv (.pointer _) rfl) ?_
                  refine t_call Try.call90 (cq7 (s := s) hb8 hS (by repeat first | exact .here _ _ | assumption | apply Pick.there) rfl) rfl ?_
                  rintro e w ⟨rfl, hS⟩
                  refine ⟨_, rfl, ?_⟩
                  refine t_q (q_fieldAddr 6 Try.runUnderlying49 rfl Try.sizeOf3 (by decide) rfl rfl) ?_
                  refine t_store (v := (.int _ _)) Try.sizeOf3 hS (by repeat first | exact .here _ _ | assumption | apply Pick.there) rfl rfl rfl rfl rfl rfl (fun w hS => ?_)
                  replace hS := hS.recast (show blkA g6 49 _ = blkA g6 49 [.int .i64 (((c0 s).1 : Nat) : Int), .int .u64 (((c1 s).1 : Nat) : Int), .int .u64 (((c2 s).1 : Nat) : Int), .int .i64 ((c3 s).1), .int .u64 (((c5 s).1 : Nat) : Int), .int .i64 ((c6 s).1), .int .i64 ((c7 s).1), .int .i64 0, .int .i64 0, .int .i64 0, .int .i64 0, .int .i64 0, .int .u64 0, .int .i64 0, .slice none 0 0, .int .i64 0, .int .i64 0, .slice none 0 0, .int .i64 0, .int .i64 0, .int .i64 0, .int .i64 0] from rfl)
                  refine t_nil ?_
                  refine c_seq ?_
                  refine c_region ?_
                  refine t_q (q_fieldAddr 0 Try.runUnderlying49 rfl Try.sizeOf3 (by decide) rfl rfl) ?_
                  refine t_q (q_load1 Try.isAgg3 rfl (hS.cell (by repeat first | exact .here _ _ | assumption | apply Pick.there) rfl)) ?_
                  refine t_q (q_neq rfl rfl) ?_
                  refine t_nil ?_
                  refine c_cond rfl ?_ ?_
                  · intro hc28
                    have hc28d := of_decide_eq_true hc28
                    first
                      | have hb32 := (show hasC (cv s) 32 = true by assumption)
                      | (have hv : cv s = 99 := by first | exact cv_of (k := 5) (by omega) (by decide)
                         have hb1 : hasC (cv s) 1 = true := by rw [hv]; decide
                         have hb16 : hasC (cv s) 16 = false := by rw [hv]; decide
                         have e4 := cskip4 hb16
                         have hb2 : hasC (cv s) 2 = true := by rw [hv]; decide
                         have hb4 : hasC (cv s) 4 = false := by rw [hv]; decide
                         have e6 := cskip6 hb4
                         have hb8 : hasC (cv s) 8 = false := by rw [hv]; decide
                         have e7 := cskip7 hb8
                         have hb32 : hasC (cv s) 32 = true := by rw [hv]; decide
                         have hb64 : hasC (cv s) 64 = true := by rw [hv]; decide
                         have hb128 : hasC (cv s) 128 = false := by rw [hv]; decide
                         have e10 := cskip10 hb128
                         have hb256 : hasC (cv s) 256 = false := by rw [hv]; decide
                         have e11 := cskip11 hb256
                         have hb512 : hasC (cv s) 512 = false := by rw [hv]; decide
                         have e12 := cskip12 hb512
                         have hb1024 : hasC (cv s) 1024 = false := by rw [hv]; decide
                         have e13 := c13_skip hb1024)
                    refine c_seq ?_
                    refine c_region ?_
                    refine t_q (q_mv (.pointer _) rfl) ?_
                    refine t_call Try.call90 (cq8 (s := s) hb32 hS (by repeat first | exact .here _ _ | assumption | apply Pick.there) (by first | rfl | rw [e7, e6])) rfl ?_
                    rintro e w ⟨rfl, hS⟩
                    refine ⟨_, rfl, ?_⟩
                    refine t_q (q_fieldAddr 8 Try.runUnderlying49 rfl Try.sizeOf2 (by decide) rfl rfl) ?_
                    refine t_store (v := (.int _ _)) Try.sizeOf2 hS (by repeat first | exact .here _ _ | assumption | apply Pick.there) rfl rfl rfl rfl rfl rfl (fun w hS => ?_)
                    first
                      | replace hS := hS.recast (show blkA g6 49 _ = blkA g6 49 [.int .i64 (((c0 s).1 : Nat) : Int), .int .u64 (((c1 s).1 : Nat) : Int), .int .u64 (((c2 s).1 : Nat) : Int), .int .i64 ((c3 s).1), .int .u64 (((c5 s).1 : Nat) : Int), .int .i64 ((c6 s).1), .int .i64 ((c7 s).1), .int .i64 0, .int .i64 ((c8 s).1), .int .i64 0, .int .i64 0, .int .i64 0, .int .u64 0, .int .i64 0, .slice none 0 0, .int .i64 0, .int .i64 0, .slice none 0 0, .int .i64 0, .int .i64 0, .int .i64 0, .int .i64 0] from rfl)
                      | replace hS := hS.recast (show blkA g6 49 _ = blkA g6 49 [.int .i64 (((c0 s).1 : Nat) : Int), .int .u64 (((c1 s).1 : Nat) : Int), .int .u64 (((c2 s).1 : Nat) : Int), .int .i64 ((c3 s).1), .int .u64 (((c5 s).1 : Nat) : Int), .int .i64 0, .int .i64 0, .int .i64 0, .int .i64 ((c8 s).1), .int .i64 0, .int .i64 0, .int .i64 0, .int .u64 0, .int .i64 0, .slice none 0 0, .int .i64 0, .int .i64 0, .slice none 0 0, .int .i64 0, .int .i64 0, .int .i64 0, .int .i64 0] from rfl)
                    refine t_nil ?_
                    refine c_region ?_
                    refine t_q (q_mv (.pointer _) rfl) ?_
                    refine t_call Try.call90 (cq9 (s := s) hb64 hS (by repeat first | exact .here _ _ | assumption | apply Pick.there) rfl) rfl ?_
                    rintro e w ⟨rfl, hS⟩
                    refine ⟨_, rfl, ?_⟩
                    refine t_q (q_fieldAddr 9 Try.runUnderlying49 rfl Try.sizeOf2 (by decide) rfl rfl) ?_
                    refine t_store (v := (.int _ _)) Try.sizeOf2 hS (by repeat first | exact .here _ _ | assumption | apply Pick.there) rfl rfl rfl rfl rfl rfl (fun w hS => ?_)
                    first
                      | replace hS := hS.recast (show blkA g6 49 _ = blkA g6 49 [.int .i64 (((c0 s).1 : Nat) : Int), .int .u64 (((c1 s).1 : Nat) : Int), .int .u64 (((c2 s).1 : Nat) : Int), .int .i64 ((c3 s).1), .int .u64 (((c5 s).1 : Nat) : Int), .int .i64 ((c6 s).1), .int .i64 ((c7 s).1), .int .i64 0, .int .i64 ((c8 s).1), .int .i64 ((c9 s).1), .int .i64 0, .int .i64 0, .int .u64 0, .int .i64 0, .slice none 0 0, .int .i64 0, .int .i64 0, .slice none 0 0, .int .i64 0, .int .i64 0, .int .i64 0, .int .i64 0] from rfl)
                      | replace hS := hS.recast (show blkA g6 49 _ = blkA g6 49 [.int .i64 (((c0 s).1 : Nat) : Int), .int .u64 (((c1 s).1 : Nat) : Int), .int .u64 (((c2 s).1 : Nat) : Int), .int .i64 ((c3 s).1), .int .u64 (((c5 s).1 : Nat) : Int), .int .i64 0, .int .i64 0, .int .i64 0, .int .i64 ((c8 s).1), .int .i64 ((c9 s).1), .int .i64 0, .int .i64 0, .int .u64 0, .int .i64 0, .slice none 0 0, .int .i64 0, .int .i64 0, .slice none 0 0, .int .i64 0, .int .i64 0, .int .i64 0, .int .i64 0] from rfl)
                    refine t_nil ?_
                    first
                      | (exfalso; omega)
                      | (replace hS := (hS.pick (A := blkA g6 49 _) (by repeat first | exact .here _ _ | assumption | apply Pick.there)).recast (show _ = blkA g6 49 [.int .i64 (((c0 s).1 : Nat) : Int), .int .u64 (((c1 s).1 : Nat) : Int), .int .u64 (((c2 s).1 : Nat) : Int), .int .i64 ((c3 s).1), .int .u64 (((c5 s).1 : Nat) : Int), .int .i64 ((c6 s).1), .int .i64 ((c7 s).1), .int .i64 ((c4 s).1), .int .i64 ((c8 s).1), .int .i64 ((c9 s).1), .int .i64 ((c11 s).1), .int .i64 ((c10 s).1), .int .u64 (((c12 s).1 : Nat) : Int), .int .i64 ruZ.version, .slice ruZ.ticks.A ruZ.ticks.l.length ruZ.ticks.c, .int .i64 ruZ.lot, .int .i64 ruZ.band, .slice ruZ.fees.A ruZ.fees.l.length ruZ.fees.c, .int .i64 ruZ.round, .int .i64 ruZ.priority, .int .i64 ruZ.self, .int .i64 ruZ.layout] from by rw [e12, e11, e10, e4]; rfl)
                         replace hS := (hS.pick (A := rdrA W 87 g13 _) (by repeat first | exact .here _ _ | assumption | apply Pick.there)).recast (show _ = rdrA W 87 g13 (c13 s) from by rw [e13, e12, e11, e10])
                         exact ⟨ruZ, ⟨none, 0, none, 0, (cR_no hb1024 _ _ _ _).symm⟩, (((((((hS.nilrow 168 2).nilrow 170 3).pick (A := rowA 170 3 none 0 0 []) (by repeat first | exact .here _ _ | assumption | apply Pick.there)).pick (A := rowA 168 2 none 0 0 []) (by repeat first | exact .here _ _ | assumption | apply Pick.there)).pick (A := blkA g2 49 [.int .i64 0, .int .u64 0, .int .u64 0, .int .i64 0, .int .u64 0, .int .i64 0, .int .i64 0, .int .i64 0, .int .i64 0, .int .i64 0, .int .i64 0, .int .i64 0, .int .u64 0, .int .i64 0, .slice none 0 0, .int .i64 0, .int .i64 0, .slice none 0 0, .int .i64 0, .int .i64 0, .int .i64 0, .int .i64 0]) (by repeat first | exact .here _ _ | assumption | apply Pick.there)).pick (A := blkA g6 49 _) (by repeat first | exact .here _ _ | assumption | apply Pick.there)).pick (A := rdrA W 87 g13 _) (by repeat first | exact .here _ _ | assumption | apply Pick.there)).front5⟩)
                  · intro hc28
                    have hc28d := of_decide_eq_false hc28
                    have hv : cv s = 3 := by first | exact cv_of (k := 4) (by omega) (by decide)
                    have hb1 : hasC (cv s) 1 = true := by rw [hv]; decide
                    have hb16 : hasC (cv s) 16 = false := by rw [hv]; decide
                    have e4 := cskip4 hb16
                    have hb2 : hasC (cv s) 2 = true := by rw [hv]; decide
                    have hb4 : hasC (cv s) 4 = false := by rw [hv]; decide
                    have e6 := cskip6 hb4
                    have hb8 : hasC (cv s) 8 = false := by rw [hv]; decide
                    have e7 := cskip7 hb8
                    have hb32 : hasC (cv s) 32 = false := by rw [hv]; decide
                    have e8 := cskip8 hb32
                    have hb64 : hasC (cv s) 64 = false := by rw [hv]; decide
                    have e9 := cskip9 hb64
                    have hb128 : hasC (cv s) 128 = false := by rw [hv]; decide
                    have e10 := cskip10 hb128
                    have hb256 : hasC (cv s) 256 = false := by rw [hv]; decide
                    have e11 := cskip11 hb256
                    have hb512 : hasC (cv s) 512 = false := by rw [hv]; decide
                    have e12 := cskip12 hb512
                    have hb1024 : hasC (cv s) 1024 = false := by rw [hv]; decide
                    have e13 := c13_skip hb1024
                    refine c_skip ?_
                    first
                      | (exfalso; omega)
                      | (replace hS := (hS.pick (A := blkA g6 49 _) (by repeat first | exact .here _ _ | assumption | apply Pick.there)).recast (show _ = blkA g6 49 [.int .i64 (((c0 s).1 : Nat) : Int), .int .u64 (((c1 s).1 : Nat) : Int), .int .u64 (((c2 s).1 : Nat) : Int), .int .i64 ((c3 s).1), .int .u64 (((c5 s).1 : Nat) : Int), .int .i64 ((c6 s).1), .int .i64 ((c7 s).1), .int .i64 ((c4 s).1), .int .i64 ((c8 s).1), .int .i64 ((c9 s).1), .int .i64 ((c11 s).1), .int .i64 ((c10 s).1), .int .u64 (((c12 s).1 : Nat) : Int), .int .i64 ruZ.version, .slice ruZ.ticks.A ruZ.ticks.l.length ruZ.ticks.c, .int .i64 ruZ.lot, .int .i64 ruZ.band, .slice ruZ.fees.A ruZ.fees.l.length ruZ.fees.c, .int .i64 ruZ.round, .int .i64 ruZ.priority, .int .i64 ruZ.self, .int .i64 ruZ.layout] from by rw [e12, e11, e10, e9, e8, e7, e6, e4]; rfl)
                         replace hS := (hS.pick (A := rdrA W 87 g13 _) (by repeat first | exact .here _ _ | assumption | apply Pick.there)).recast (show _ = rdrA W 87 g13 (c13 s) from by rw [e13, e12, e11, e10, e9, e8, e7, e6])
                         exact ⟨ruZ, ⟨none, 0, none, 0, (cR_no hb1024 _ _ _ _).symm⟩, (((((((hS.nilrow 168 2).nilrow 170 3).pick (A := rowA 170 3 none 0 0 []) (by repeat first | exact .here _ _ | assumption | apply Pick.there)).pick (A := rowA 168 2 none 0 0 []) (by repeat first | exact .here _ _ | assumption | apply Pick.there)).pick (A := blkA g2 49 [.int .i64 0, .int .u64 0, .int .u64 0, .int .i64 0, .int .u64 0, .int .i64 0, .int .i64 0, .int .i64 0, .int .i64 0, .int .i64 0, .int .i64 0, .int .i64 0, .int .u64 0, .int .i64 0, .slice none 0 0, .int .i64 0, .int .i64 0, .slice none 0 0, .int .i64 0, .int .i64 0, .int .i64 0, .int .i64 0]) (by repeat first | exact .here _ _ | assumption | apply Pick.there)).pick (A := blkA g6 49 _) (by repeat first | exact .here _ _ | assumption | apply Pick.there)).pick (A := rdrA W 87 g13 _) (by repeat first | exact .here _ _ | assumption | apply Pick.there)).front5⟩)
                · intro hc24
                  have hc24d := of_decide_eq_false hc24
                  have hv5 : cv s = 99 ∨ cv s = 3 := by
                    rcases hk3 with h | h | h
                    · exfalso; omega
                    · exact .inr (cv_of h (by decide))
                    · exact .inl (cv_of h (by decide))
                  have e6 := cskip6 (s := s) (by rcases hv5 with h | h <;> rw [h] <;> decide)
                  have e7 := cskip7 (s := s) (by rcases hv5 with h | h <;> rw [h] <;> decide)
                  refine c_skip ?_
                  refine c_seq ?_
                  refine c_region ?_
                  refine t_q (q_fieldAddr 0 Try.runUnderlying49 rfl Try.sizeOf3 (by decide) rfl rfl) ?_
                  refine t_q (q_load1 Try.isAgg3 rfl (hS.cell (by repeat first | exact .here _ _ | assumption | apply Pick.there) rfl)) ?_
                  refine t_q (q_neq rfl rfl) ?_
                  refine t_nil ?_
                  refine c_cond rfl ?_ ?_
                  · intro hc32
                    have hc32d := of_decide_eq_true hc32
                    first
                      | have hb32 := (show hasC (cv s) 32 = true by assumption)
                      | (have hv : cv s = 99 := by first | exact cv_of (k := 5) (by omega) (by decide)
                         have hb1 : hasC (cv s) 1 = true := by rw [hv]; decide
                         have hb16 : hasC (cv s) 16 = false := by rw [hv]; decide
                         have e4 := cskip4 hb16
                         have hb2 : hasC (cv s) 2 = true := by rw [hv]; decide
                         have hb4 : hasC (cv s) 4 = false := by rw [hv]; decide
                         have e6 := cskip6 hb4
                         have hb8 : hasC (cv s) 8 = false := by rw [hv]; decide
                         have e7 := cskip7 hb8
                         have hb32 : hasC (cv s) 32 = true := by rw [hv]; decide
                         have hb64 : hasC (cv s) 64 = true := by rw [hv]; decide
                         have hb128 : hasC (cv s) 128 = false := by rw [hv]; decide
                         have e10 := cskip10 hb128
                         have hb256 : hasC (cv s) 256 = false := by rw [hv]; decide
                         have e11 := cskip11 hb256
                         have hb512 : hasC (cv s) 512 = false := by rw [hv]; decide
                         have e12 := cskip12 hb512
                         have hb1024 : hasC (cv s) 1024 = false := by rw [hv]; decide
                         have e13 := c13_skip hb1024)
                    refine c_seq ?_
                    refine c_region ?_
                    refine t_q (q_mv (.pointer _) rfl) ?_
                    refine t_call Try.call90 (cq8 (s := s) hb32 hS (by repeat first | exact .here _ _ | assumption | apply Pick.there) (by first | rfl | rw [e7, e6])) rfl ?_
                    rintro e w ⟨rfl, hS⟩
                    refine ⟨_, rfl, ?_⟩
                    refine t_q (q_fieldAddr 8 Try.runUnderlying49 rfl Try.sizeOf2 (by decide) rfl rfl) ?_
                    refine t_store (v := (.int _ _)) Try.sizeOf2 hS (by repeat first | exact .here _ _ | assumption | apply Pick.there) rfl rfl rfl rfl rfl rfl (fun w hS => ?_)
                    first
                      | replace hS := hS.recast (show blkA g6 49 _ = blkA g6 49 [.int .i64 (((c0 s).1 : Nat) : Int), .int .u64 (((c1 s).1 : Nat) : Int), .int .u64 (((c2 s).1 : Nat) : Int), .int .i64 ((c3 s).1), .int .u64 (((c5 s).1 : Nat) : Int), .int .i64 ((c6 s).1), .int .i64 ((c7 s).1), .int .i64 0, .int .i64 ((c8 s).1), .int .i64 0, .int .i64 0, .int .i64 0, .int .u64 0, .int .i64 0, .slice none 0 0, .int .i64 0, .int .i64 0, .slice none 0 0, .int .i64 0, .int .i64 0, .int .i64 0, .int .i64 0] from rfl)
                      | replace hS := hS.recast (show blkA g6 49 _ = blkA g6 49 [.int .i64 (((c0 s).1 : Nat) : Int), .int .u64 (((c1 s).1 : Nat) : Int), .int .u64 (((c2 s).1 : Nat) : Int), .int .i64 ((c3 s).1), .int .u64 (((c5 s).1 : Nat) : Int), .int .i64 0, .int .i64 0, .int .i64 0, .int .i64 ((c8 s).1), .int .i64 0, .int .i64 0, .int .i64 0, .int .u64 0, .int .i64 0, .slice none 0 0, .int .i64 0, .int .i64 0, .slice none 0 0, .int .i64 0, .int .i64 0, .int .i64 0, .int .i64 0] from rfl)
                    refine t_nil ?_
                    refine c_region ?_
                    refine t_q (q_mv (.pointer _) rfl) ?_
                    refine t_call Try.call90 (cq9 (s := s) hb64 hS (by repeat first | exact .here _ _ | assumption | apply Pick.there) rfl) rfl ?_
                    rintro e w ⟨rfl, hS⟩
                    refine ⟨_, rfl, ?_⟩
                    refine t_q (q_fieldAddr 9 Try.runUnderlying49 rfl Try.sizeOf2 (by decide) rfl rfl) ?_
                    refine t_store (v := (.int _ _)) Try.sizeOf2 hS (by repeat first | exact .here _ _ | assumption | apply Pick.there) rfl rfl rfl rfl rfl rfl (fun w hS => ?_)
                    first
                      | replace hS := hS.recast (show blkA g6 49 _ = blkA g6 49 [.int .i64 (((c0 s).1 : Nat) : Int), .int .u64 (((c1 s).1 : Nat) : Int), .int .u64 (((c2 s).1 : Nat) : Int), .int .i64 ((c3 s).1), .int .u64 (((c5 s).1 : Nat) : Int), .int .i64 ((c6 s).1), .int .i64 ((c7 s).1), .int .i64 0, .int .i64 ((c8 s).1), .int .i64 ((c9 s).1), .int .i64 0, .int .i64 0, .int .u64 0, .int .i64 0, .slice none 0 0, .int .i64 0, .int .i64 0, .slice none 0 0, .int .i64 0, .int .i64 0, .int .i64 0, .int .i64 0] from rfl)
                      | replace hS := hS.recast (show blkA g6 49 _ = blkA g6 49 [.int .i64 (((c0 s).1 : Nat) : Int), .int .u64 (((c1 s).1 : Nat) : Int), .int .u64 (((c2 s).1 : Nat) : Int), .int .i64 ((c3 s).1), .int .u64 (((c5 s).1 : Nat) : Int), .int .i64 0, .int .i64 0, .int .i64 0, .int .i64 ((c8 s).1), .int .i64 ((c9 s).1), .int .i64 0, .int .i64 0, .int .u64 0, .int .i64 0, .slice none 0 0, .int .i64 0, .int .i64 0, .slice none 0 0, .int .i64 0, .int .i64 0, .int .i64 0, .int .i64 0] from rfl)
                    refine t_nil ?_
                    first
                      | (exfalso; omega)
                      | (replace hS := (hS.pick (A := blkA g6 49 _) (by repeat first | exact .here _ _ | assumption | apply Pick.there)).recast (show _ = blkA g6 49 [.int .i64 (((c0 s).1 : Nat) : Int), .int .u64 (((c1 s).1 : Nat) : Int), .int .u64 (((c2 s).1 : Nat) : Int), .int .i64 ((c3 s).1), .int .u64 (((c5 s).1 : Nat) : Int), .int .i64 ((c6 s).1), .int .i64 ((c7 s).1), .int .i64 ((c4 s).1), .int .i64 ((c8 s).1), .int .i64 ((c9 s).1), .int .i64 ((c11 s).1), .int .i64 ((c10 s).1), .int .u64 (((c12 s).1 : Nat) : Int), .int .i64 ruZ.version, .slice ruZ.ticks.A ruZ.ticks.l.length ruZ.ticks.c, .int .i64 ruZ.lot, .int .i64 ruZ.band, .slice ruZ.fees.A ruZ.fees.l.length ruZ.fees.c, .int .i64 ruZ.round, .int .i64 ruZ.priority, .int .i64 ruZ.self, .int .i64 ruZ.layout] from by rw [e12, e11, e10, e7, e6, e4]; rfl)
                         replace hS := (hS.pick (A := rdrA W 87 g13 _) (by repeat first | exact .here _ _ | assumption | apply Pick.there)).recast (show _ = rdrA W 87 g13 (c13 s) from by rw [e13, e12, e11, e10])
                         exact ⟨ruZ, ⟨none, 0, none, 0, (cR_no hb1024 _ _ _ _).symm⟩, (((((((hS.nilrow 168 2).nilrow 170 3).pick (A := rowA 170 3 none 0 0 []) (by repeat first | exact .here _ _ | assumption | apply Pick.there)).pick (A := rowA 168 2 none 0 0 []) (by repeat first | exact .here _ _ | assumption | apply Pick.there)).pick (A := blkA g2 49 [.int .i64 0, .int .u64 0, .int .u64 0, .int .i64 0, .int .u64 0, .int .i64 0, .int .i64 0, .int .i64 0, .int .i64 0, .int .i64 0, .int .i64 0, .int .i64 0, .int .u64 0, .int .i64 0, .slice none 0 0, .int .i64 0, .int .i64 0, .slice none 0 0, .int .i64 0, .int .i64 0, .int .i64 0, .int .i64 0]) (by repeat first | exact .here _ _ | assumption | apply Pick.there)).pick (A := blkA g6 49 _) (by repeat first | exact .here _ _ | assumption | apply Pick.there)).pick (A := rdrA W 87 g13 _) (by repeat first | exact .here _ _ | assumption | apply Pick.there)).front5⟩)
                  · intro hc32
                    have hc32d := of_decide_eq_false hc32
                    have hv : cv s = 3 := by first | exact cv_of (k := 4) (by omega) (by decide)
                    have hb1 : hasC (cv s) 1 = true := by rw [hv]; decide
                    have hb16 : hasC (cv s) 16 = false := by rw [hv]; decide
                    have e4 := cskip4 hb16
                    have hb2 : hasC (cv s) 2 = true := by rw [hv]; decide
                    have hb4 : hasC (cv s) 4 = false := by rw [hv]; decide
                    have e6 := cskip6 hb4
                    have hb8 : hasC (cv s) 8 = false := by rw [hv]; decide
                    have e7 := cskip7 hb8
                    have hb32 : hasC (cv s) 32 = false := by rw [hv]; decide
                    have e8 := cskip8 hb32
                    have hb64 : hasC (cv s) 64 = false := by rw [hv]; decide
                    have e9 := cskip9 hb64
                    have hb128 : hasC (cv s) 128 = false := by rw [hv]; decide
                    have e10 := cskip10 hb128
                    have hb256 : hasC (cv s) 256 = false := by rw [hv]; decide
                    have e11 := cskip11 hb256
                    have hb512 : hasC (cv s) 512 = false := by rw [hv]; decide
                    have e12 := cskip12 hb512
                    have hb1024 : hasC (cv s) 1024 = false := by rw [hv]; decide
                    have e13 := c13_skip hb1024
                    refine c_skip ?_
                    first
                      | (exfalso; omega)
                      | (replace hS := (hS.pick (A := blkA g6 49 _) (by repeat first | exact .here _ _ | assumption | apply Pick.there)).recast (show _ = blkA g6 49 [.int .i64 (((c0 s).1 : Nat) : Int), .int .u64 (((c1 s).1 : Nat) : Int), .int .u64 (((c2 s).1 : Nat) : Int), .int .i64 ((c3 s).1), .int .u64 (((c5 s).1 : Nat) : Int), .int .i64 ((c6 s).1), .int .i64 ((c7 s).1), .int .i64 ((c4 s).1), .int .i64 ((c8 s).1), .int .i64 ((c9 s).1), .int .i64 ((c11 s).1), .int .i64 ((c10 s).1), .int .u64 (((c12 s).1 : Nat) : Int), .int .i64 ruZ.version, .slice ruZ.ticks.A ruZ.ticks.l.length ruZ.ticks.c, .int .i64 ruZ.lot, .int .i64 ruZ.band, .slice ruZ.fees.A ruZ.fees.l.length ruZ.fees.c, .int .i64 ruZ.round, .int .i64 ruZ.priority, .int .i64 ruZ.self, .int .i64 ruZ.layout] from by rw [e12, e11, e10, e9, e8, e7, e6, e4]; rfl)
                         replace hS := (hS.pick (A := rdrA W 87 g13 _) (by repeat first | exact .here _ _ | assumption | apply Pick.there)).recast (show _ = rdrA W 87 g13 (c13 s) from by rw [e13, e12, e11, e10, e9, e8, e7, e6])
                         exact ⟨ruZ, ⟨none, 0, none, 0, (cR_no hb1024 _ _ _ _).symm⟩, (((((((hS.nilrow 168 2).nilrow 170 3).pick (A := rowA 170 3 none 0 0 []) (by repeat first | exact .here _ _ | assumption | apply Pick.there)).pick (A := rowA 168 2 none 0 0 []) (by repeat first | exact .here _ _ | assumption | apply Pick.there)).pick (A := blkA g2 49 [.int .i64 0, .int .u64 0, .int .u64 0, .int .i64 0, .int .u64 0, .int .i64 0, .int .i64 0, .int .i64 0, .int .i64 0, .int .i64 0, .int .i64 0, .int .i64 0, .int .u64 0, .int .i64 0, .slice none 0 0, .int .i64 0, .int .i64 0, .slice none 0 0, .int .i64 0, .int .i64 0, .int .i64 0, .int .i64 0]) (by repeat first | exact .here _ _ | assumption | apply Pick.there)).pick (A := blkA g6 49 _) (by repeat first | exact .here _ _ | assumption | apply Pick.there)).pick (A := rdrA W 87 g13 _) (by repeat first | exact .here _ _ | assumption | apply Pick.there)).front5⟩)
              · intro hc20
                first
                  | have hk3 : ¬ ((((c0 s).1 : Nat) : Int) = 3 ∨ (((c0 s).1 : Nat) : Int) = 4 ∨ (((c0 s).1 : Nat) : Int) = 5) := of_decide_eq_false hc20
                  | skip
                refine c_seq ?_
                refine c_region ?_
                refine t_q (q_eql rfl rfl) ?_
                refine t_q (q_as (.bool _) rfl) ?_
                refine t_nil ?_
                refine c_cond rfl ?_ ?_
                · intro hc36
                  have hc36d := of_decide_eq_true hc36
                  have hv : cv s = 1 := by first | exact cv_of (k := 8) (by omega) (by decide)
                  have hb1 : hasC (cv s) 1 = true := by rw [hv]; decide
                  have hb16 : hasC (cv s) 16 = false := by rw [hv]; decide
                  have e4 := cskip4 hb16
                  have hb2 : hasC (cv s) 2 = false := by rw [hv]; decide
                  have e5 := cskip5 hb2
                  have hb4 : hasC (cv s) 4 = false := by rw [hv]; decide
                  have e6 := cskip6 hb4
                  have hb8 : hasC (cv s) 8 = false := by rw [hv]; decide
                  have e7 := cskip7 hb8
                  have hb32 : hasC (cv s) 32 = false := by rw [hv]; decide
                  have e8 := cskip8 hb32
                  have hb64 : hasC (cv s) 64 = false := by rw [hv]; decide
                  have e9 := cskip9 hb64
                  have hb128 : hasC (cv s) 128 = false := by rw [hv]; decide
                  have e10 := cskip10 hb128
                  have hb256 : hasC (cv s) 256 = false := by rw [hv]; decide
                  have e11 := cskip11 hb256
                  have hb512 : hasC (cv s) 512 = false := by rw [hv]; decide
                  have e12 := cskip12 hb512
                  have hb1024 : hasC (cv s) 1024 = false := by rw [hv]; decide
                  have e13 := c13_skip hb1024
                  refine c_region ?_
                  refine t_q (q_mv (.pointer _) rfl) ?_
                  refine t_call Try.call90 (cq3 (s := s) hb1 hS (by repeat first | exact .here _ _ | assumption | apply Pick.there) rfl) rfl ?_
                  rintro e w ⟨rfl, hS⟩
                  refine ⟨_, rfl, ?_⟩
                  refine t_q (q_fieldAddr 3 Try.runUnderlying49 rfl Try.sizeOf3 (by decide) rfl rfl) ?_
                  refine t_store (v := (.int _ _)) Try.sizeOf3 hS (by repeat first | exact .here _ _ | assumption | apply Pick.there) rfl rfl rfl rfl rfl rfl (fun w hS => ?_)
                  replace hS := hS.recast (show blkA g6 49 _ = blkA g6 49 [.int .i64 (((c0 s).1 : Nat) : Int), .int .u64 (((c1 s).1 : Nat) : Int), .int .u64 (((c2 s).1 : Nat) : Int), .int .i64 ((c3 s).1), .int .u64 0, .int .i64 0, .int .i64 0, .int .i64 0, .int .i64 0, .int .i64 0, .int .i64 0, .int .i64 0, .int .u64 0, .int .i64 0, .slice none 0 0, .int .i64 0, .int .i64 0, .slice none 0 0, .int .i64 0, .int .i64 0, .int .i64 0, .int .i64 0] from rfl)
                  refine t_nil ?_
                  replace hS := (hS.pick (A := blkA g6 49 _) (by repeat first | exact .here _ _ | assumption | apply Pick.there)).recast (show _ = blkA g6 49 [.int .i64 (((c0 s).1 : Nat) : Int), .int .u64 (((c1 s).1 : Nat) : Int), .int .u64 (((c2 s).1 : Nat) : Int), .int .i64 ((c3 s).1), .int .u64 (((c5 s).1 : Nat) : Int), .int .i64 ((c6 s).1), .int .i64 ((c7 s).1), .int .i64 ((c4 s).1), .int .i64 ((c8 s).1), .int .i64 ((c9 s).1), .int .i64 ((c11 s).1), .int .i64 ((c10 s).1), .int .u64 (((c12 s).1 : Nat) : Int), .int .i64 ruZ.version, .slice ruZ.ticks.A ruZ.ticks.l.length ruZ.ticks.c, .int .i64 ruZ.lot, .int .i64 ruZ.band, .slice ruZ.fees.A ruZ.fees.l.length ruZ.fees.c, .int .i64 ruZ.round, .int .i64 ruZ.priority, .int .i64 ruZ.self, .int .i64 ruZ.layout] from by rw [e12, e11, e10, e9, e8, e7, e6, e5, e4]; rfl)
                  replace hS := (hS.pick (A := rdrA W 87 g13 _) (by repeat first | exact .here _ _ | assumption | apply Pick.there)).recast (show _ = rdrA W 87 g13 (c13 s) from by rw [e13, e12, e11, e10, e9, e8, e7, e6, e5, e4])
                  exact ⟨ruZ, ⟨none, 0, none, 0, (cR_no hb1024 _ _ _ _).symm⟩, (((((((hS.nilrow 168 2).nilrow 170 3).pick (A := rowA 170 3 none 0 0 []) (by repeat first | exact .here _ _ | assumption | apply Pick.there)).pick (A := rowA 168 2 none 0 0 []) (by repeat first | exact .here _ _ | assumption | apply Pick.there)).pick (A := blkA g2 49 [.int .i64 0, .int .u64 0, .int .u64 0, .int .i64 0, .int .u64 0, .int .i64 0, .int .i64 0, .int .i64 0, .int .i64 0, .int .i64 0, .int .i64 0, .int .i64 0, .int .u64 0, .int .i64 0, .slice none 0 0, .int .i64 0, .int .i64 0, .slice none 0 0, .int .i64 0, .int .i64 0, .int .i64 0, .int .i64 0]) (by repeat first | exact .here _ _ | assumption | apply Pick.there)).pick (A := blkA g6 49 _) (by repeat first | exact .here _ _ | assumption | apply Pick.there)).pick (A := rdrA W 87 g13 _) (by repeat first | exact .here _ _ | assumption | apply Pick.there)).front5⟩
                · intro hc36
                  have hc36d := of_decide_eq_false hc36
                  refine c_seq ?_
                  refine c_region ?_
                  refine t_q (q_eql rfl rfl) ?_
                  refine t_q (q_as (.bool _) rfl) ?_
                  refine t_nil ?_
                  refine c_cond rfl ?_ ?_
                  · intro hc39
                    have hc39d := of_decide_eq_true hc39
                    have hv : cv s = 1024 := by first | exact cv_of (k := 9) (by omega) (by decide)
                    have hb1 : hasC (cv s) 1 = false := by rw [hv]; decide
                    have e3 := cskip3 hb1
                    have hb16 : hasC (cv s) 16 = false := by rw [hv]; decide
                    have e4 := cskip4 hb16
                    have hb2 : hasC (cv s) 2 = false := by rw [hv]; decide
                    have e5 := cskip5 hb2
                    have hb4 : hasC (cv s) 4 = false := by rw [hv]; decide
                    have e6 := cskip6 hb4
                    have hb8 : hasC (cv s) 8 = false := by rw [hv]; decide
                    have e7 := cskip7 hb8
                    have hb32 : hasC (cv s) 32 = false := by rw [hv]; decide
                    have e8 := cskip8 hb32
                    have hb64 : hasC (cv s) 64 = false := by rw [hv]; decide
                    have e9 := cskip9 hb64
                    have hb128 : hasC (cv s) 128 = false := by rw [hv]; decide
                    have e10 := cskip10 hb128
                    have hb256 : hasC (cv s) 256 = false := by rw [hv]; decide
                    have e11 := cskip11 hb256
                    have hb512 : hasC (cv s) 512 = false := by rw [hv]; decide
                    have e12 := cskip12 hb512
                    have hb1024 : hasC (cv s) 1024 = true := by rw [hv]; decide
                    replace hS := (hS.pick (A := rdrA W 87 g13 (c2 s).2) (by repeat first | exact .here _ _ | assumption | apply Pick.there)).recast (show _ = rdrA W 87 g13 (c12 s).2 from by rw [e12, e11, e10, e9, e8, e7, e6, e5, e4, e3])
                    refine c_region ?_
                    refine t_q (q_mv (.pointer _) rfl) ?_
                    refine t_call Try.call98 (qrread_calls (s := (c12 s).2) hS (by repeat first | exact .here _ _ | assumption | apply Pick.there)) rfl ?_
                    rintro e w ⟨r, rfl, hr, hS⟩
                    refine ⟨_, rfl, ?_⟩
                    replace hS := (hS.pick (A := rdrA W 87 g13 (ruS (c12 s).2)) (by repeat first | exact .here _ _ | assumption | apply Pick.there)).recast (show _ = rdrA W 87 g13 (c13 s) from by rw [c13_take hb1024])
                    refine t_q (q_mv (.tuple _) rfl) ?_
                    refine t_q (q_extract rfl rfl) ?_
                    refine t_q (q_extract rfl rfl) ?_
                    refine t_q (q_fieldAddr 13 Try.runUnderlying49 rfl Try.sizeOf47 (by decide) rfl rfl) ?_
                    refine t_store (v := (.agg _)) Try.sizeOf47 hS (by repeat first | exact .here _ _ | assumption | apply Pick.there) rfl rfl rfl rfl rfl rfl (fun w hS => ?_)
                    replace hS := hS.recast ((congrArg (blkA g6 49) (setN_at r.cells [.int .i64 (((c0 s).1 : Nat) : Int), .int .u64 (((c1 s).1 : Nat) : Int), .int .u64 (((c2 s).1 : Nat) : Int), .int .i64 0, .int .u64 0, .int .i64 0, .int .i64 0, .int .i64 0, .int .i64 0, .int .i64 0, .int .i64 0, .int .i64 0, .int .u64 0] [.int .i64 0, .slice none 0 0, .int .i64 0, .int .i64 0, .slice none 0 0, .int .i64 0, .int .i64 0, .int .i64 0, .int .i64 0] rfl)).trans (show blkA g6 49 _ = blkA g6 49 [.int .i64 (((c0 s).1 : Nat) : Int), .int .u64 (((c1 s).1 : Nat) : Int), .int .u64 (((c2 s).1 : Nat) : Int), .int .i64 0, .int .u64 0, .int .i64 0, .int .i64 0, .int .i64 0, .int .i64 0, .int .i64 0, .int .i64 0, .int .i64 0, .int .u64 0, .int .i64 r.version, .slice r.ticks.A r.ticks.l.length r.ticks.c, .int .i64 r.lot, .int .i64 r.band, .slice r.fees.A r.fees.l.length r.fees.c, .int .i64 r.round, .int .i64 r.priority, .int .i64 r.self, .int .i64 r.layout] from rfl))
                    refine t_nil ?_
                    replace hS := (hS.pick (A := blkA g6 49 _) (by repeat first | exact .here _ _ | assumption | apply Pick.there)).recast (show _ = blkA g6 49 [.int .i64 (((c0 s).1 : Nat) : Int), .int .u64 (((c1 s).1 : Nat) : Int), .int .u64 (((c2 s).1 : Nat) : Int), .int .i64 ((c3 s).1), .int .u64 (((c5 s).1 : Nat) : Int), .int .i64 ((c6 s).1), .int .i64 ((c7 s).1), .int .i64 ((c4 s).1), .int .i64 ((c8 s).1), .int .i64 ((c9 s).1), .int .i64 ((c11 s).1), .int .i64 ((c10 s).1), .int .u64 (((c12 s).1 : Nat) : Int), .int .i64 r.version, .slice r.ticks.A r.ticks.l.length r.ticks.c, .int .i64 r.lot, .int .i64 r.band, .slice r.fees.A r.fees.l.length r.fees.c, .int .i64 r.round, .int .i64 r.priority, .int .i64 r.self, .int .i64 r.layout] from by rw [e12, e11, e10, e9, e8, e7, e6, e5, e4, e3]; rfl)
                    obtain ⟨A1, c1', B1, d1, hr1⟩ := hr
                    exact ⟨r, ⟨A1, c1', B1, d1, hr1.trans (cR_yes hb1024 _ _ _ _).symm⟩, (((((hS.pick (A := rowA 170 3 r.fees.A r.fees.l.length r.fees.c (r.fees.l.flatMap Tr.cells)) (by repeat first | exact .here _ _ | assumption | apply Pick.there)).pick (A := rowA 168 2 r.ticks.A r.ticks.l.length r.ticks.c (r.ticks.l.flatMap Tk.cells)) (by repeat first | exact .here _ _ | assumption | apply Pick.there)).pick (A := blkA g2 49 [.int .i64 0, .int .u64 0, .int .u64 0, .int .i64 0, .int .u64 0, .int .i64 0, .int .i64 0, .int .i64 0, .int .i64 0, .int .i64 0, .int .i64 0, .int .i64 0, .int .u64 0, .int .i64 0, .slice none 0 0, .int .i64 0, .int .i64 0, .slice none 0 0, .int .i64 0, .int .i64 0, .int .i64 0, .int .i64 0]) (by repeat first | exact .here _ _ | assumption | apply Pick.there)).pick (A := blkA g6 49 _) (by repeat first | exact .here _ _ | assumption | apply Pick.there)).pick (A := rdrA W 87 g13 _) (by repeat first | exact .here _ _ | assumption | apply Pick.there)).front5⟩
                  · intro hc39
                    have hc39d := of_decide_eq_false hc39
                    refine c_seq ?_
                    refine c_region ?_
                    refine t_q (q_eql rfl rfl) ?_
                    refine t_q (q_as (.bool _) rfl) ?_
                    refine t_nil ?_
                    refine c_cond rfl ?_ ?_
                    · intro hc44
                      have hc44d := of_decide_eq_true hc44
                      have hv : cv s = 384 := by first | exact cv_of (k := 10) (by omega) (by decide)
                      have hb1 : hasC (cv s) 1 = false := by rw [hv]; decide
                      have e3 := cskip3 hb1
                      have hb16 : hasC (cv s) 16 = false := by rw [hv]; decide
                      have e4 := cskip4 hb16
                      have hb2 : hasC (cv s) 2 = false := by rw [hv]; decide
                      have e5 := cskip5 hb2
                      have hb4 : hasC (cv s) 4 = false := by rw [hv]; decide
                      have e6 := cskip6 hb4
                      have hb8 : hasC (cv s) 8 = false := by rw [hv]; decide
                      have e7 := cskip7 hb8
                      have hb32 : hasC (cv s) 32 = false := by rw [hv]; decide
                      have e8 := cskip8 hb32
                      have hb64 : hasC (cv s) 64 = false := by rw [hv]; decide
                      have e9 := cskip9 hb64
                      have hb128 : hasC (cv s) 128 = true := by rw [hv]; decide
                      have hb256 : hasC (cv s) 256 = true := by rw [hv]; decide
                      have hb512 : hasC (cv s) 512 = false := by rw [hv]; decide
                      have e12 := cskip12 hb512
                      have hb1024 : hasC (cv s) 1024 = false := by rw [hv]; decide
                      have e13 := c13_skip hb1024
                      refine c_seq ?_
                      refine c_region ?_
                      refine t_q (q_mv (.pointer _) rfl) ?_
                      refine t_call Try.call90 (cq10 (s := s) hb128 hS (by repeat first | exact .here _ _ | assumption | apply Pick.there) (by first | rfl | rw [e9, e8, e7, e6, e5, e4, e3])) rfl ?_
                      rintro e w ⟨rfl, hS⟩
                      refine ⟨_, rfl, ?_⟩
                      refine t_q (q_fieldAddr 11 Try.runUnderlying49 rfl Try.sizeOf3 (by decide) rfl rfl) ?_
                      refine t_store (v := (.int _ _)) Try.sizeOf3 hS (by repeat first | exact .here _ _ | assumption | apply Pick.there) rfl rfl rfl rfl rfl rfl (fun w hS => ?_)
                      replace hS := hS.recast (show blkA g6 49 _ = blkA g6 49 [.int .i64 (((c0 s).1 : Nat) : Int), .int .u64 (((c1 s).1 : Nat) : Int), .int .u64 (((c2 s).1 : Nat) : Int), .int .i64 0, .int .u64 0, .int .i64 0, .int .i64 0, .int .i64 0, .int .i64 0, .int .i64 0, .int .i64 0, .int .i64 ((c10 s).1), .int .u64 0, .int .i64 0, .slice none 0 0, .int .i64 0, .int .i64 0, .slice none 0 0, .int .i64 0, .int .i64 0, .int .i64 0, .int .i64 0] from rfl)
                      refine t_nil ?_
                      refine c_region ?_
                      refine t_q (q_mv (.pointer _) rfl) ?_
                      refine t_call Try.call90 (cq11 (s := s) hb256 hS (by repeat first | exact .here _ _ | assumption | apply Pick.there) rfl) rfl ?_
                      rintro e w ⟨rfl, hS⟩
                      refine ⟨_, rfl, ?_⟩
                      refine t_q (q_fieldAddr 10 Try.runUnderlying49 rfl Try.sizeOf3 (by decide) rfl rfl) ?_
                      refine t_store (v := (.int _ _)) Try.sizeOf3 hS (by repeat first | exact .here _ _ | assumption | apply Pick.there) rfl rfl rfl rfl rfl rfl (fun w hS => ?_)
                      replace hS := hS.recast (show blkA g6 49 _ = blkA g6 49 [.int .i64 (((c0 s).1 : Nat) : Int), .int .u64 (((c1 s).1 : Nat) : Int), .int .u64 (((c2 s).1 : Nat) : Int), .int .i64 0, .int .u64 0, .int .i64 0, .int .i64 0, .int .i64 0, .int .i64 0, .int .i64 0, .int .i64 ((c11 s).1), .int .i64 ((c10 s).1), .int .u64 0, .int .i64 0, .slice none 0 0, .int .i64 0, .int .i64 0, .slice none 0 0, .int .i64 0, .int .i64 0, .int .i64 0, .int .i64 0] from rfl)
                      refine t_nil ?_
                      replace hS := (hS.pick (A := blkA g6 49 _) (by repeat first | exact .here _ _ | assumption | apply Pick.there)).recast (show _ = blkA g6 49 [.int .i64 (((c0 s).1 : Nat) : Int), .int .u64 (((c1 s).1 : Nat) : Int), .int .u64 (((c2 s).1 : Nat) : Int), .int .i64 ((c3 s).1), .int .u64 (((c5 s).1 : Nat) : Int), .int .i64 ((c6 s).1), .int .i64 ((c7 s).1), .int .i64 ((c4 s).1), .int .i64 ((c8 s).1), .int .i64 ((c9 s).1), .int .i64 ((c11 s).1), .int .i64 ((c10 s).1), .int .u64 (((c12 s).1 : Nat) : Int), .int .i64 ruZ.version, .slice ruZ.ticks.A ruZ.ticks.l.length ruZ.ticks.c, .int .i64 ruZ.lot, .int .i64 ruZ.band, .slice ruZ.fees.A ruZ.fees.l.length ruZ.fees.c, .int .i64 ruZ.round, .int .i64 ruZ.priority, .int .i64 ruZ.self, .int .i64 ruZ.layout] from by rw [e12, e9, e8, e7, e6, e5, e4, e3]; rfl)
                      replace hS := (hS.pick (A := rdrA W 87 g13 _) (by repeat first | exact .here _ _ | assumption | apply Pick.there)).recast (show _ = rdrA W 87 g13 (c13 s) from by rw [e13, e12])
                      exact ⟨ruZ, ⟨none, 0, none, 0, (cR_no hb1024 _ _ _ _).symm⟩, (((((((hS.nilrow 168 2).nilrow 170 3).pick (A := rowA 170 3 none 0 0 []) (by repeat first | exact .here _ _ | assumption | apply Pick.there)).pick (A := rowA 168 2 none 0 0 []) (by repeat first | exact .here _ _ | assumption | apply Pick.there)).pick (A := blkA g2 49 [.int .i64 0, .int .u64 0, .int .u64 0, .int .i64 0, .int .u64 0, .int .i64 0, .int .i64 0, .int .i64 0, .int .i64 0, .int .i64 0, .int .i64 0, .int .i64 0, .int .u64 0, .int .i64 0, .slice none 0 0, .int .i64 0, .int .i64 0, .slice none 0 0, .int .i64 0, .int .i64 0, .int .i64 0, .int .i64 0]) (by repeat first | exact .here _ _ | assumption | apply Pick.there)).pick (A := blkA g6 49 _) (by repeat first | exact .here _ _ | assumption | apply Pick.there)).pick (A := rdrA W 87 g13 _) (by repeat first | exact .here _ _ | assumption | apply Pick.there)).front5⟩
                    · intro hc44
                      have hc44d := of_decide_eq_false hc44
                      refine c_seq ?_
                      refine c_region ?_
                      refine t_q (q_eql rfl rfl) ?_
                      refine t_q (q_as (.bool _) rfl) ?_
                      refine t_nil ?_
                      refine c_cond rfl ?_ ?_
                      · intro hc48
                        have hc48d := of_decide_eq_true hc48
                        have hv : cv s = 256 := by first | exact cv_of (k := 11) (by omega) (by decide)
                        have hb1 : hasC (cv s) 1 = false := by rw [hv]; decide
                        have e3 := cskip3 hb1
                        have hb16 : hasC (cv s) 16 = false := by rw [hv]; decide
                        have e4 := cskip4 hb16
                        have hb2 : hasC (cv s) 2 = false := by rw [hv]; decide
                        have e5 := cskip5 hb2
                        have hb4 : hasC (cv s) 4 = false := by rw [hv]; decide
                        have e6 := cskip6 hb4
                        have hb8 : hasC (cv s) 8 = false := by rw [hv]; decide
                        have e7 := cskip7 hb8
                        have hb32 : hasC (cv s) 32 = false := by rw [hv]; decide
                        have e8 := cskip8 hb32
                        have hb64 : hasC (cv s) 64 = false := by rw [hv]; decide
                        have e9 := cskip9 hb64
                        have hb128 : hasC (cv s) 128 = false := by rw [hv]; decide
                        have e10 := cskip10 hb128
                        have hb256 : hasC (cv s) 256 = true := by rw [hv]; decide
                        have hb512 : hasC (cv s) 512 = false := by rw [hv]; decide
                        have e12 := cskip12 hb512
                        have hb1024 : hasC (cv s) 1024 = false := by rw [hv]; decide
                        have e13 := c13_skip hb1024
                        refine c_region ?_
                        refine t_q (q_mv (.pointer _) rfl) ?_
                        refine t_call Try.call90 (cq11 (s := s) hb256 hS (by repeat first | exact .here _ _ | assumption | apply Pick.there) (by first | rfl | rw [e10, e9, e8, e7, e6, e5, e4, e3])) rfl ?_
                        rintro e w ⟨rfl, hS⟩
                        refine ⟨_, rfl, ?_⟩
                        refine t_q (q_fieldAddr 10 Try.runUnderlying49 rfl Try.sizeOf3 (by decide) rfl rfl) ?_
                        refine t_store (v := (.int _ _)) Try.sizeOf3 hS (by repeat first | exact .here _ _ | assumption | apply Pick.there) rfl rfl rfl rfl rfl rfl (fun w hS => ?_)
                        replace hS := hS.recast (show blkA g6 49 _ = blkA g6 49 [.int .i64 (((c0 s).1 : Nat) : Int), .int .u64 (((c1 s).1 : Nat) : Int), .int .u64 (((c2 s).1 : Nat) : Int), .int .i64 0, .int .u64 0, .int .i64 0, .int .i64 0, .int .i64 0, .int .i64 0, .int .i64 0, .int .i64 ((c11 s).1), .int .i64 0, .int .u64 0, .int .i64 0, .slice none 0 0, .int .i64 0, .int .i64 0, .slice none 0 0, .int .i64 0, .int .i64 0, .int .i64 0, .int .i64 0] from rfl)
                        refine t_nil ?_
                        replace hS := (hS.pick (A := blkA g6 49 _) (by repeat first | exact .here _ _ | assumption | apply Pick.there)).recast (show _ = blkA g6 49 [.int .i64 (((c0 s).1 : Nat) : Int), .int .u64 (((c1 s).1 : Nat) : Int), .int .u64 (((c2 s).1 : Nat) : Int), .int .i64 ((c3 s).1), .int .u64 (((c5 s).1 : Nat) : Int), .int .i64 ((c6 s).1), .int .i64 ((c7 s).1), .int .i64 ((c4 s).1), .int .i64 ((c8 s).1), .int .i64 ((c9 s).1), .int .i64 ((c11 s).1), .int .i64 ((c10 s).1), .int .u64 (((c12 s).1 : Nat) : Int), .int .i64 ruZ.version, .slice ruZ.ticks.A ruZ.ticks.l.length ruZ.ticks.c, .int .i64 ruZ.lot, .int .i64 ruZ.band, .slice ruZ.fees.A ruZ.fees.l.length ruZ.fees.c, .int .i64 ruZ.round, .int .i64 ruZ.priority, .int .i64 ruZ.self, .int .i64 ruZ.layout] from by rw [e12, e10, e9, e8, e7, e6, e5, e4, e3]; rfl)
                        replace hS := (hS.pick (A := rdrA W 87 g13 _) (by repeat first | exact .here _ _ | assumption | apply Pick.there)).recast (show _ = rdrA W 87 g13 (c13 s) from by rw [e13, e12])
                        exact ⟨ruZ, ⟨none, 0, none, 0, (cR_no hb1024 _ _ _ _).symm⟩, (((((((hS.nilrow 168 2).nilrow 170 3).pick (A := rowA 170 3 none 0 0 []) (by repeat first | exact .here _ _ | assumption | apply Pick.there)).pick (A := rowA 168 2 none 0 0 []) (by repeat first | exact .here _ _ | assumption | apply Pick.there)).pick (A := blkA g2 49 [.int .i64 0, .int .u64 0, .int .u64 0, .int .i64 0, .int .u64 0, .int .i64 0, .int .i64 0, .int .i64 0, .int .i64 0, .int .i64 0, .int .i64 0, .int .i64 0, .int .u64 0, .int .i64 0, .slice none 0 0, .int .i64 0, .int .i64 0, .slice none 0 0, .int .i64 0, .int .i64 0, .int .i64 0, .int .i64 0]) (by repeat first | exact .here _ _ | assumption | apply Pick.there)).pick (A := blkA g6 49 _) (by repeat first | exact .here _ _ | assumption | apply Pick.there)).pick (A := rdrA W 87 g13 _) (by repeat first | exact .here _ _ | assumption | apply Pick.there)).front5⟩
                      · intro hc48
                        have hc48d := of_decide_eq_false hc48
                        refine c_seq ?_
                        refine c_region ?_
                        refine t_q (q_eql rfl rfl) ?_
                        refine t_q (q_as (.bool _) rfl) ?_
                        refine t_nil ?_
                        refine c_cond rfl ?_ ?_
                        · intro hc51
                          have hc51d := of_decide_eq_true hc51
                          have hv : cv s = 768 := by first | exact cv_of (k := 13) (by omega) (by decide)
                          have hb1 : hasC (cv s) 1 = false := by rw [hv]; decide
                          have e3 := cskip3 hb1
                          have hb16 : hasC (cv s) 16 = false := by rw [hv]; decide
                          have e4 := cskip4 hb16
                          have hb2 : hasC (cv s) 2 = false := by rw [hv]; decide
                          have e5 := cskip5 hb2
                          have hb4 : hasC (cv s) 4 = false := by rw [hv]; decide
                          have e6 := cskip6 hb4
                          have hb8 : hasC (cv s) 8 = false := by rw [hv]; decide
                          have e7 := cskip7 hb8
                          have hb32 : hasC (cv s) 32 = false := by rw [hv]; decide
                          have e8 := cskip8 hb32
                          have hb64 : hasC (cv s) 64 = false := by rw [hv]; decide
                          have e9 := cskip9 hb64
                          have hb128 : hasC (cv s) 128 = false := by rw [hv]; decide
                          have e10 := cskip10 hb128
                          have hb256 : hasC (cv s) 256 = true := by rw [hv]; decide
                          have hb512 : hasC (cv s) 512 = true := by rw [hv]; decide
                          have hb1024 : hasC (cv s) 1024 = false := by rw [hv]; decide
                          have e13 := c13_skip hb1024
                          refine c_seq ?_
                          refine c_region ?_
                          refine t_q (q_mv (.pointer _) rfl) ?_
                          refine t_call Try.call90 (cq11 (s := s) hb256 hS (by repeat first | exact .here _ _ | assumption | apply Pick.there) (by first | rfl | rw [e10, e9, e8, e7, e6, e5, e4, e3])) rfl ?_
                          rintro e w ⟨rfl, hS⟩
                          refine ⟨_, rfl, ?_⟩
                          refine t_q (q_fieldAddr 10 Try.runUnderlying49 rfl Try.sizeOf3 (by decide) rfl rfl) ?_
                          refine t_store (v := (.int _ _)) Try.sizeOf3 hS (by repeat first | exact .here _ _ | assumption | apply Pick.there) rfl rfl rfl rfl rfl rfl (fun w hS => ?_)
                          replace hS := hS.recast (show blkA g6 49 _ = blkA g6 49 [.int .i64 (((c0 s).1 : Nat) : Int), .int .u64 (((c1 s).1 : Nat) : Int), .int .u64 (((c2 s).1 : Nat) : Int), .int .i64 0, .int .u64 0, .int .i64 0, .int .i64 0, .int .i64 0, .int .i64 0, .int .i64 0, .int .i64 ((c11 s).1), .int .i64 0, .int .u64 0, .int .i64 0, .slice none 0 0, .int .i64 0, .int .i64 0, .slice none 0 0, .int .i64 0, .int .i64 0, .int .i64 0, .int .i64 0] from rfl)
                          refine t_nil ?_
                          refine c_region ?_
                          refine t_q (q_mv (.pointer _) rfl) ?_
                          refine t_q (q_mv (.int _ _) rfl) ?_
                          refine t_call Try.call91 (cq12 (s := s) hb512 hS (by repeat first | exact .here _ _ | assumption | apply Pick.there) rfl) rfl ?_
                          rintro e w ⟨rfl, hS⟩
                          refine ⟨_, rfl, ?_⟩
                          refine t_q (q_fieldAddr 12 Try.runUnderlying49 rfl Try.sizeOf26 (by decide) rfl rfl) ?_
                          refine t_store (v := (.int _ _)) Try.sizeOf26 hS (by repeat first | exact .here _ _ | assumption | apply Pick.there) rfl rfl rfl rfl rfl rfl (fun w hS => ?_)
                          replace hS := hS.recast (show blkA g6 49 _ = blkA g6 49 [.int .i64 (((c0 s).1 : Nat) : Int), .int .u64 (((c1 s).1 : Nat) : Int), .int .u64 (((c2 s).1 : Nat) : Int), .int .i64 0, .int .u64 0, .int .i64 0, .int .i64 0, .int .i64 0, .int .i64 0, .int .i64 0, .int .i64 ((c11 s).1), .int .i64 0, .int .u64 (((c12 s).1 : Nat) : Int), .int .i64 0, .slice none 0 0, .int .i64 0, .int .i64 0, .slice none 0 0, .int .i64 0, .int .i64 0, .int .i64 0, .int .i64 0] from rfl)
                          refine t_nil ?_
                          replace hS := (hS.pick (A := blkA g6 49 _) (by repeat first | exact .here _ _ | assumption | apply Pick.there)).recast (show _ = blkA g6 49 [.int .i64 (((c0 s).1 : Nat) : Int), .int .u64 (((c1 s).1 : Nat) : Int), .int .u64 (((c2 s).1 : Nat) : Int), .int .i64 ((c3 s).1), .int .u64 (((c5 s).1 : Nat) : Int), .int .i64 ((c6 s).1), .int .i64 ((c7 s).1), .int .i64 ((c4 s).1), .int .i64 ((c8 s).1), .int .i64 ((c9 s).1), .int .i64 ((c11 s).1), .int .i64 ((c10 s).1), .int .u64 (((c12 s).1 : Nat) : Int), .int .i64 ruZ.version, .slice ruZ.ticks.A ruZ.ticks.l.length ruZ.ticks.c, .int .i64 ruZ.lot, .int .i64 ruZ.band, .slice ruZ.fees.A ruZ.fees.l.length ruZ.fees.c, .int .i64 ruZ.round, .int .i64 ruZ.priority, .int .i64 ruZ.self, .int .i64 ruZ.layout] from by rw [e10, e9, e8, e7, e6, e5, e4, e3]; rfl)
                          replace hS := (hS.pick (A := rdrA W 87 g13 _) (by repeat first | exact .here _ _ | assumption | apply Pick.there)).recast (show _ = rdrA W 87 g13 (c13 s) from by rw [e13])
                          exact ⟨ruZ, ⟨none, 0, none, 0, (cR_no hb1024 _ _ _ _).symm⟩, (((((((hS.nilrow 168 2).nilrow 170 3).pick (A := rowA 170 3 none 0 0 []) (by repeat first | exact .here _ _ | assumption | apply Pick.there)).pick (A := rowA 168 2 none 0 0 []) (by repeat first | exact .here _ _ | assumption | apply Pick.there)).pick (A := blkA g2 49 [.int .i64 0, .int .u64 0, .int .u64 0, .int .i64 0, .int .u64 0, .int .i64 0, .int .i64 0, .int .i64 0, .int .i64 0, .int .i64 0, .int .i64 0, .int .i64 0, .int .u64 0, .int .i64 0, .slice none 0 0, .int .i64 0, .int .i64 0, .slice none 0 0, .int .i64 0, .int .i64 0, .int .i64 0, .int .i64 0]) (by repeat first | exact .here _ _ | assumption | apply Pick.there)).pick (A := blkA g6 49 _) (by repeat first | exact .here _ _ | assumption | apply Pick.there)).pick (A := rdrA W 87 g13 _) (by repeat first | exact .here _ _ | assumption | apply Pick.there)).front5⟩
                        · intro hc51
                          have hc51d := of_decide_eq_false hc51
                          have hv : cv s = 0 := cv_of rfl (cfl_none (by omega))
                          have hb1 : hasC (cv s) 1 = false := by rw [hv]; decide
                          have e3 := cskip3 hb1
                          have hb16 : hasC (cv s) 16 = false := by rw [hv]; decide
                          have e4 := cskip4 hb16
                          have hb2 : hasC (cv s) 2 = false := by rw [hv]; decide
                          have e5 := cskip5 hb2
                          have hb4 : hasC (cv s) 4 = false := by rw [hv]; decide
                          have e6 := cskip6 hb4
                          have hb8 : hasC (cv s) 8 = false := by rw [hv]; decide
                          have e7 := cskip7 hb8
                          have hb32 : hasC (cv s) 32 = false := by rw [hv]; decide
                          have e8 := cskip8 hb32
                          have hb64 : hasC (cv s) 64 = false := by rw [hv]; decide
                          have e9 := cskip9 hb64
                          have hb128 : hasC (cv s) 128 = false := by rw [hv]; decide
                          have e10 := cskip10 hb128
                          have hb256 : hasC (cv s) 256 = false := by rw [hv]; decide
                          have e11 := cskip11 hb256
                          have hb512 : hasC (cv s) 512 = false := by rw [hv]; decide
                          have e12 := cskip12 hb512
                          have hb1024 : hasC (cv s) 1024 = false := by rw [hv]; decide
                          have e13 := c13_skip hb1024
                          refine c_skip ?_
                          replace hS := (hS.pick (A := blkA g6 49 _) (by repeat first | exact .here _ _ | assumption | apply Pick.there)).recast (show _ = blkA g6 49 [.int .i64 (((c0 s).1 : Nat) : Int), .int .u64 (((c1 s).1 : Nat) : Int), .int .u64 (((c2 s).1 : Nat) : Int), .int .i64 ((c3 s).1), .int .u64 (((c5 s).1 : Nat) : Int), .int .i64 ((c6 s).1), .int .i64 ((c7 s).1), .int .i64 ((c4 s).1), .int .i64 ((c8 s).1), .int .i64 ((c9 s).1), .int .i64 ((c11 s).1), .int .i64 ((c10 s).1), .int .u64 (((c12 s).1 : Nat) : Int), .int .i64 ruZ.version, .slice ruZ.ticks.A ruZ.ticks.l.length ruZ.ticks.c, .int .i64 ruZ.lot, .int .i64 ruZ.band, .slice ruZ.fees.A ruZ.fees.l.length ruZ.fees.c, .int .i64 ruZ.round, .int .i64 ruZ.priority, .int .i64 ruZ.self, .int .i64 ruZ.layout] from by rw [e12, e11, e10, e9, e8, e7, e6, e5, e4, e3]; rfl)
                          replace hS := (hS.pick (A := rdrA W 87 g13 _) (by repeat first | exact .here _ _ | assumption | apply Pick.there)).recast (show _ = rdrA W 87 g13 (c13 s) from by rw [e13, e12, e11, e10, e9, e8, e7, e6, e5, e4, e3])
                          exact ⟨ruZ, ⟨none, 0, none, 0, (cR_no hb1024 _ _ _ _).symm⟩, (((((((hS.nilrow 168 2).nilrow 170 3).pick (A := rowA 170 3 none 0 0 []) (by repeat first | exact .here _ _ | assumption | apply Pick.there)).pick (A := rowA 168 2 none 0 0 []) (by repeat first | exact .here _ _ | assumption | apply Pick.there)).pick (A := blkA g2 49 [.int .i64 0, .int .u64 0, .int .u64 0, .int .i64 0, .int .u64 0, .int .i64 0, .int .i64 0, .int .i64 0, .int .i64 0, .int .i64 0, .int .i64 0, .int .i64 0, .int .u64 0, .int .i64 0, .slice none 0 0, .int .i64 0, .int .i64 0, .slice none 0 0, .int .i64 0, .int .i64 0, .int .i64 0, .int .i64 0]) (by repeat first | exact .here _ _ | assumption | apply Pick.there)).pick (A := blkA g6 49 _) (by repeat first | exact .here _ _ | assumption | apply Pick.there)).pick (A := rdrA W 87 g13 _) (by repeat first | exact .here _ _ | assumption | apply Pick.there)).front5⟩
      ·
        rintro σ w ⟨r, hr, hS⟩
        refine c_seq ?_
        refine c_seq ?_
        refine c_region ?_
        refine t_q (q_mv (.pointer _) rfl) ?_
        refine t_call Try.call99 (qEnd (s := c13 s) hS (by repeat first | exact .here _ _ | assumption | apply Pick.there)) rfl ?_
        rintro e w ⟨rfl, hS⟩
        refine ⟨_, rfl, ?_⟩
        refine t_q (q_neq rfl rfl) ?_
        refine t_q (q_mv (.bool _) rfl) ?_
        refine t_case 104 rfl ?_ ?_
        · intro hg56
          have hg56d := of_decide_eq_true hg56
          refine t_no rfl rfl (by rw [hg56]; decide) ?_
          refine t_no rfl rfl (by rw [hg56]; decide) ?_
          refine t_no rfl rfl (by rw [hg56]; decide) ?_
          refine t_q (q_pick_t rfl hg56) ?_
          refine t_nil ?_
          refine c_cond_t rfl rfl ?_
          have hD := outC_no hs (by omega) (by
            first
              | exact .inl (bnt (by assumption : (!cok (((c0 s).1 : Nat) : Int)) = true))
              | exact .inr (.inr ⟨r, hr, bnt (by assumption : (!sndC (mkC s r)) = true)⟩)
              | exact .inr (.inl (by omega)))
          refine c_seq ?_
          refine c_region ?_
          refine t_q (q_build (qs := [(0, 1), (1, 1), (2, 1), (3, 1), (4, 1), (5, 1), (6, 1), (7, 1), (8, 1), (9, 1), (10, 1), (11, 1), (12, 1), (13, 9)]) [(.int _ _), (.int _ _), (.int _ _), (.int _ _), (.int _ _), (.int _ _), (.int _ _), (.int _ _), (.int _ _), (.int _ _), (.int _ _), (.int _ _), (.int _ _), (.int _ _), (.slice _ _ _), (.int _ _), (.int _ _), (.slice _ _ _), (.int _ _), (.int _ _), (.int _ _), (.int _ _)] Try.zeroValue49 Try.runUnderlying49 ⟨rfl, Try.sizeOf3, rfl, Try.sizeOf26, rfl, Try.sizeOf26, rfl, Try.sizeOf3, rfl, Try.sizeOf26, rfl, Try.sizeOf3, rfl, Try.sizeOf3, rfl, Try.sizeOf3, rfl, Try.sizeOf2, rfl, Try.sizeOf2, rfl, Try.sizeOf3, rfl, Try.sizeOf3, rfl, Try.sizeOf26, rfl, Try.sizeOf47, trivial⟩ rfl rfl) ?_
          refine t_store (v := (.agg _)) Try.sizeOf49 hS (by repeat first | exact .here _ _ | assumption | apply Pick.there) rfl rfl rfl rfl rfl rfl (fun w hS => ?_)
          replace hS := hS.recast (congrArg (blkA g2 49) (setN_full (vs := zC.cells) (cmd_len zC).symm))
          refine t_q (q_assign) ?_
          refine t_nil ?_
          refine c_ret ?_
          refine r_two rfl (res1_cellN Try.isAgg49 Try.sizeOf49 rfl (hS.blk (by repeat first | exact .here _ _ | assumption | apply Pick.there)) rfl) rfl ?_
          first
            | exact ⟨zC, 21, rfl, zC_by, outC_big (by omega), zC_rds hS⟩
            | exact ⟨zC, 20, rfl, zC_by, hD, zC_rds hS⟩
            | exact ⟨mkC s r, 0, rfl, mkC_by hr, hD, mkC_rds hS (by repeat first | exact .here _ _ | assumption | apply Pick.there) (by repeat first | exact .here _ _ | assumption | apply Pick.there)⟩
        · intro hg56
          have hg56d := of_decide_eq_false hg56
          refine t_yes rfl rfl hg56 ?_
          refine t_q (q_cast (v' := .agg (mkC s r).cells.toArray) (q_load_blk Try.isAgg49 Try.sizeOf49 rfl (hS.blk (by repeat first | exact .here _ _ | assumption | apply Pick.there)) rfl) (by unfold mkC; rfl)) ?_
          refine t_yes rfl rfl hg56 ?_
          refine t_call Try.call49 (qcsound_calls (x := mkC s r) (mkC_gd (cR_gd hr (rowRdTk hS (A := r.ticks.A) (c := r.ticks.c) (l := r.ticks.l) (by repeat first | exact .here _ _ | assumption | apply Pick.there) rfl) (rowRdTr hS (A := r.fees.A) (c := r.fees.c) (l := r.fees.l) (by repeat first | exact .here _ _ | assumption | apply Pick.there) rfl)))) rfl ?_
          rintro e w ⟨rfl, hT⟩
          refine ⟨_, rfl, ?_⟩
          replace hS := hS.after hT
          refine t_yes rfl rfl hg56 ?_
          refine t_q (q_not rfl) ?_
          refine t_q (q_pick_f rfl hg56) ?_
          refine t_nil ?_
          refine c_cond rfl ?_ ?_
          · intro hc58
            have hD := outC_no hs (by omega) (by
              first
                | exact .inl (bnt (by assumption : (!cok (((c0 s).1 : Nat) : Int)) = true))
                | exact .inr (.inr ⟨r, hr, bnt (by assumption : (!sndC (mkC s r)) = true)⟩)
                | exact .inr (.inl (by omega)))
            refine c_seq ?_
            refine c_region ?_
            refine t_q (q_build (qs := [(0, 1), (1, 1), (2, 1), (3, 1), (4, 1), (5, 1), (6, 1), (7, 1), (8, 1), (9, 1), (10, 1), (11, 1), (12, 1), (13, 9)]) [(.int _ _), (.int _ _), (.int _ _), (.int _ _), (.int _ _), (.int _ _), (.int _ _), (.int _ _), (.int _ _), (.int _ _), (.int _ _), (.int _ _), (.int _ _), (.int _ _), (.slice _ _ _), (.int _ _), (.int _ _), (.slice _ _ _), (.int _ _), (.int _ _), (.int _ _), (.int _ _)] Try.zeroValue49 Try.runUnderlying49 ⟨rfl, Try.sizeOf3, rfl, Try.sizeOf26, rfl, Try.sizeOf26, rfl, Try.sizeOf3, rfl, Try.sizeOf26, rfl, Try.sizeOf3, rfl, Try.sizeOf3, rfl, Try.sizeOf3, rfl, Try.sizeOf2, rfl, Try.sizeOf2, rfl, Try.sizeOf3, rfl, Try.sizeOf3, rfl, Try.sizeOf26, rfl, Try.sizeOf47, trivial⟩ rfl rfl) ?_
            refine t_store (v := (.agg _)) Try.sizeOf49 hS (by repeat first | exact .here _ _ | assumption | apply Pick.there) rfl rfl rfl rfl rfl rfl (fun w hS => ?_)
            replace hS := hS.recast (congrArg (blkA g2 49) (setN_full (vs := zC.cells) (cmd_len zC).symm))
            refine t_q (q_assign) ?_
            refine t_nil ?_
            refine c_ret ?_
            refine r_two rfl (res1_cellN Try.isAgg49 Try.sizeOf49 rfl (hS.blk (by repeat first | exact .here _ _ | assumption | apply Pick.there)) rfl) rfl ?_
            first
              | exact ⟨zC, 21, rfl, zC_by, outC_big (by omega), zC_rds hS⟩
              | exact ⟨zC, 20, rfl, zC_by, hD, zC_rds hS⟩
              | exact ⟨mkC s r, 0, rfl, mkC_by hr, hD, mkC_rds hS (by repeat first | exact .here _ _ | assumption | apply Pick.there) (by repeat first | exact .here _ _ | assumption | apply Pick.there)⟩
          · intro hc58
            have hD := outC_yes hs (by omega) (by omega) hr (bnf (by assumption : (!sndC (mkC s r)) = false))
            refine c_skip ?_
            refine c_seq ?_
            refine c_region ?_
            refine t_q (q_cast (v' := .agg (mkC s r).cells.toArray) (q_load_blk Try.isAgg49 Try.sizeOf49 rfl (hS.blk (by repeat first | exact .here _ _ | assumption | apply Pick.there)) rfl) (by unfold mkC; rfl)) ?_
            refine t_store (v := (.agg _)) Try.sizeOf49 hS (by repeat first | exact .here _ _ | assumption | apply Pick.there) rfl rfl rfl rfl rfl rfl (fun w hS => ?_)
            replace hS := hS.recast (congrArg (blkA g2 49) (setN_full (vs := (mkC s r).cells) (cmd_len _).symm))
            refine t_q (q_assign) ?_
            refine t_nil ?_
            refine c_ret ?_
            refine r_two rfl (res1_cellN Try.isAgg49 Try.sizeOf49 rfl (hS.blk (by repeat first | exact .here _ _ | assumption | apply Pick.there)) rfl) rfl ?_
            first
              | exact ⟨zC, 21, rfl, zC_by, outC_big (by omega), zC_rds hS⟩
              | exact ⟨zC, 20, rfl, zC_by, hD, zC_rds hS⟩
              | exact ⟨mkC s r, 0, rfl, mkC_by hr, hD, mkC_rds hS (by repeat first | exact .here _ _ | assumption | apply Pick.there) (by repeat first | exact .here _ _ | assumption | apply Pick.there)⟩
end Go.Proofs.Ytmgobaojioaioaa
