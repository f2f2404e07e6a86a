/- What a file has: the program's walk. -/
import Derived.Test.YtlppgpidakfnlaaAc
import Derived.Test.YtlppgpidakfnlaaCo
import Derived.Test.YtlppgpidakfnlaaSr
namespace Go.Proofs.Ytlppgpidakfnlaa
open Go Go.RowKit Go.Lib
variable {W : World}
def tlA (bs : List UInt8) (g2 g4 g5 k : Nat) : Asn := exA fun s : Sn => exA fun left : Nat => pureA (TlI bs k s left) (starA (snA 45 g2 s) (starA (blkA g4 3 [.int .i64 (left : Int)]) (blkA g5 4 [.bool (decide (0 < k))])))
theorem St.tl {w : World} {R : List Asn} {bs : List UInt8} {g2 g4 g5 k : Nat} (h : St W w (tlA bs g2 g4 g5 k :: R)) : ∃ s left, TlI bs k s left ∧ St W w (snA 45 g2 s :: blkA g4 3 [.int .i64 (left : Int)] :: blkA g5 4 [.bool (decide (0 < k))] :: R) := by
  obtain ⟨s, h⟩ := h.ex
  obtain ⟨left, h⟩ := h.ex
  obtain ⟨hI, h⟩ := h.pure
  have h1 := (h.star.pick (.there (.here _ _))).star
  exact ⟨s, left, hI, h1.pick (.there (.there (.here _ _)))⟩
theorem St.untl {w : World} {R : List Asn} {bs : List UInt8} {g2 g4 g5 k left : Nat} {s : Sn} {b : Bool} (h : St W w (snA 45 g2 s :: blkA g4 3 [.int .i64 (left : Int)] :: blkA g5 4 [.bool b] :: R)) (hI : TlI bs k s left) (hb : b = decide (0 < k)) : St W w (tlA bs g2 g4 g5 k :: R) := by
  subst hb
  have h1 := ((h.pick (.there (.there (.here _ _)))).pick (.there (.there (.here _ _)))).unstar
  exact St.unex s (St.unex left (St.unpure hI ((h1.pick (.there (.here _ _))).unstar)))
def brkA (bs : List UInt8) (g2 g4 g5 j : Nat) : Asn := exA fun s : Sn => pureA (j = 0 ∧ tel bs = some s) (starA (snA 45 g2 s) (starA (blkA g4 3 [.int .i64 ((0 : Nat) : Int)]) (blkA g5 4 [.bool true])))
theorem St.brk {w : World} {R : List Asn} {bs : List UInt8} {g2 g4 g5 j : Nat} (h : St W w (brkA bs g2 g4 g5 j :: R)) : ∃ s, j = 0 ∧ tel bs = some s ∧ St W w (snA 45 g2 s :: blkA g4 3 [.int .i64 ((0 : Nat) : Int)] :: blkA g5 4 [.bool true] :: R) := by
  obtain ⟨s, h⟩ := h.ex
  obtain ⟨⟨h1, h2⟩, h⟩ := h.pure
  have h3 := (h.star.pick (.there (.here _ _))).star
  exact ⟨s, h1, h2, h3.pick (.there (.there (.here _ _)))⟩
theorem St.unbrk {w : World} {R : List Asn} {bs : List UInt8} {g2 g4 g5 : Nat} {s : Sn} {b : Bool} (h : St W w (snA 45 g2 s :: blkA g4 3 [.int .i64 ((0 : Nat) : Int)] :: blkA g5 4 [.bool b] :: R)) (ht : tel bs = some s) (hb : b = true) : St W w (brkA bs g2 g4 g5 0 :: R) := by
  subst hb
  have h1 := ((h.pick (.there (.there (.here _ _)))).pick (.there (.there (.here _ _)))).unstar
  exact St.unex s (St.unpure ⟨rfl, ht⟩ ((h1.pick (.there (.here _ _))).unstar))
theorem oNat_I {w : World} {K : Asn} {L R R2 : List Asn} {g : Nat} {s : Rs} (hS : St W w L) (pk : Pick L (rdO W K 197 g s) R) (pk2 : Pick R K R2) : Calls Try.prog 82 #[.pointer (some ⟨g, 0, none⟩), .int .u64 4611686018427387904] w fun e w' => e = .returned (.int .u64 (((s.nat mI).1 : Nat) : Int)) ∧ St W w' (rdO W K 197 g (s.nat mI).2 :: R) := oNat (most := 4611686018427387904) hS pk pk2 (by decide) (by decide)
theorem oNat_B {w : World} {K : Asn} {L R R2 : List Asn} {g : Nat} {s : Rs} (hS : St W w L) (pk : Pick L (rdO W K 197 g s) R) (pk2 : Pick R K R2) : Calls Try.prog 82 #[.pointer (some ⟨g, 0, none⟩), .int .u64 524288] w fun e w' => e = .returned (.int .u64 (((s.nat mB).1 : Nat) : Int)) ∧ St W w' (rdO W K 197 g (s.nat mB).2 :: R) := oNat (most := 524288) hS pk pk2 (by decide) (by decide)
attribute [local irreducible] blkA rowA rdO
set_option maxHeartbeats 2000000 in
set_option maxRecDepth 100000 in
theorem atell_calls {A : Option Addr} {c : Nat} {bs : List UInt8} (hR : RdB W A bs) (hc : bs.length ≤ c ∧ bs.length ≤ 100000000) : Calls Try.prog 29 #[.slice A bs.length c] W fun e w' => ∃ A' c', e = .returned (.tuple #[.agg #[.int .u64 ((telS bs).i : Int), .int .u64 ((telS bs).t : Int), .slice A' (telS bs).b.length c'], .bool (tel bs).isSome]) ∧ St W w' [rowA 5 1 A' (telS bs).b.length c' (((telS bs).b).map bv)] := by
  have hS := St.init W
  refine calls_of_wpM (args := [_]) Try.func29 rfl rfl rfl ?_
  refine m_seq ?_
  refine m_of ?_
  refine c_region ?_
  refine t_alloc Try.zeroValue45 rfl hS (fun g2 w hS => ?_)
  refine t_alloc Try.zeroValue4 rfl hS (fun g3 w hS => ?_)
  refine t_nil ?_
  refine m_seq ?_
  refine m_of ?_
  refine c_region ?_
  refine t_alloc Try.zeroValue3 rfl hS (fun g4 w hS => ?_)
  refine t_alloc Try.zeroValue4 rfl hS (fun g5 w hS => ?_)
  refine t_store (v := (.int _ _)) Try.sizeOf3 hS (by repeat first | exact .here _ _ | assumption | apply Pick.there) rfl rfl rfl rfl rfl rfl (fun w hS => ?_)
  replace hS := hS.recast (show blkA g4 3 _ = blkA g4 3 [.int .i64 ((0 : Nat) : Int)] from rfl)
  refine t_store (v := (.bool _)) Try.sizeOf4 hS (by repeat first | exact .here _ _ | assumption | apply Pick.there) rfl rfl rfl rfl rfl rfl (fun w hS => ?_)
  replace hS := hS.recast (show blkA g5 4 _ = blkA g5 4 [.bool false] from rfl)
  refine t_nil ?_
  refine m_seq ?_
  refine m_seq ?_
  refine m_of ?_
  refine c_region ?_
  refine t_q (q_mv (.slice _ _ _) rfl) ?_
  refine t_call Try.call23 (each_calls hS) rfl ?_
  rintro e w ⟨gE, rfl, hS⟩
  refine ⟨_, rfl, ?_⟩
  refine t_nil ?_
  refine m_block ?_
  replace hS : St W w [blkA gE 25 [.slice A bs.length c], tlA bs g2 g4 g5 ([] : List It).length, blkA g3 4 [.bool false]] := ((St.untl (k := 0) (left := 0) (St.unsn sn0 (A := none) (c := 0) ((((((((hS.pick (A := blkA g3 4 _) (by repeat first | exact .here _ _ | assumption | apply Pick.there)).pick (A := blkA gE 25 [.slice A bs.length c]) (by repeat first | exact .here _ _ | assumption | apply Pick.there)).pick (A := blkA g5 4 _) (by repeat first | exact .here _ _ | assumption | apply Pick.there)).pick (A := blkA g4 3 _) (by repeat first | exact .here _ _ | assumption | apply Pick.there)).pick (A := blkA g2 45 _) (by repeat first | exact .here _ _ | assumption | apply Pick.there))).nilrow 5 1).pick (.there (.here _ _)))) (.inl ⟨rfl, rfl, rfl⟩) rfl).pick (A := blkA gE 25 [.slice A bs.length c]) (by repeat first | exact .here _ _ | assumption | apply Pick.there))
  refine m_range (encs := It.vals) (gf := 74) (fun pre => [blkA gE 25 [.slice A bs.length c], tlA bs g2 g4 g5 pre.length, blkA g3 4 [.bool false]]) (fun i _ => match i with | some j => [brkA bs g2 g4 g5 j, blkA g3 4 [.bool false]] | none => [pureA (tel bs = none) (snA 45 g2 sn0), blkA g3 4 [.bool false]]) (It.give) (It.nxt bs) (fun xs => whole bs xs.length = true ∧ tkE (bs.drop (pos bs xs.length)) ≠ 0) ?env hS rfl Try.call74 (fun _ => rfl) ?ass ?body ?hit ?done ?exit ?ret
  case ass =>
    intro x w K hK
    refine c_seq ?_
    refine c_region ?_
    refine t_q (q_as (.int _ _) rfl) ?_
    refine t_nil ?_
    refine c_region ?_
    refine t_q (q_as (.slice _ _ _) rfl) ?_
    refine t_nil ?_
    exact hK
  case body =>
    intro E pre x w hn hS
    obtain ⟨hw2, hkx, hlx⟩ := hn
    have hw0 : whole bs pre.length = true := by rw [whole, Bool.and_eq_true] at hw2; exact hw2.1
    have he0 : tkE (bs.drop (pos bs pre.length)) = 0 := by rw [whole, Bool.and_eq_true, decide_eq_true_eq] at hw2; exact hw2.2
    have hnl := (tk_zero he0).2.2.2
    have hxl : x.l.length ≤ 100000000 := by
      rw [hlx, (tk_ok he0).2.1, List.length_take]; omega
    replace hS : St W w (rowA 5 1 x.A x.l.length x.c (x.l.map bv) :: blkA gE 25 [.slice A bs.length c] :: tlA bs g2 g4 g5 pre.length :: blkA g3 4 [.bool false] :: E) := hS
    have hxle := hS.row_le (.here _ _)
    obtain ⟨s, left, hI, hS⟩ := (hS.pick (A := tlA bs g2 g4 g5 pre.length) (by repeat first | exact .here _ _ | assumption | apply Pick.there)).tl
    have htl := tl_le hI
    obtain ⟨Ab, cb, hS⟩ := hS.sn
    refine c_block ?_
    refine c_seq ?_
    refine c_seq ?_
    refine c_region ?_
    refine t_q (q_load1 Try.isAgg4 rfl (hS.cell (by repeat first | exact .here _ _ | assumption | apply Pick.there) rfl)) ?_
    refine t_q (q_mv (.bool _) rfl) ?_
    refine t_case 14 rfl ?_ ?_
    · intro hg3
      refine t_yes rfl rfl hg3 ?_
      refine t_q (q_load1 Try.isAgg3 rfl (hS.cell (by repeat first | exact .here _ _ | assumption | apply Pick.there) rfl)) ?_
      refine t_yes rfl rfl hg3 ?_
      refine t_q (q_eql rfl rfl) ?_
      refine t_q (q_pick_t rfl hg3) ?_
      refine t_nil ?_
      refine c_cond rfl ?_ ?_
      · intro hc5
        have hc5d := of_decide_eq_true hc5
        refine c_exit ?_
        refine ite_f (by decide) ?_
        have hp0 : 0 < pre.length := of_decide_eq_true (by assumption)
        have hlz : left = 0 := by omega
        subst hlz
        replace hS := (hS.pick (A := rowA 5 1 x.A x.l.length x.c (x.l.map bv)) (by repeat first | exact .here _ _ | assumption | apply Pick.there)).drop
        replace hS := (hS.pick (A := blkA gE 25 [.slice A bs.length c]) (by repeat first | exact .here _ _ | assumption | apply Pick.there)).drop
        show St W _ (brkA bs g2 g4 g5 0 :: blkA g3 4 [.bool false] :: E)
        exact St.unbrk (St.unsn s ((((((hS.pick (A := blkA g3 4 [.bool false]) (by repeat first | exact .here _ _ | assumption | apply Pick.there)).pick (A := blkA g5 4 _) (by repeat first | exact .here _ _ | assumption | apply Pick.there)).pick (A := blkA g4 3 _) (by repeat first | exact .here _ _ | assumption | apply Pick.there)).pick (A := rowA 5 1 Ab _ cb _) (by repeat first | exact .here _ _ | assumption | apply Pick.there)).pick (A := blkA g2 45 _) (by repeat first | exact .here _ _ | assumption | apply Pick.there)))) (tl_done hI hp0) (decide_eq_true hp0)
      · intro hc5
        have hc5d := of_decide_eq_false hc5
        refine c_skip ?_
        refine c_seq ?_
        refine c_seq ?_
        refine c_region ?_
        refine t_q (q_load1 Try.isAgg4 rfl (hS.cell (by repeat first | exact .here _ _ | assumption | apply Pick.there) rfl)) ?_
        refine t_q (q_not rfl) ?_
        refine t_nil ?_
        refine c_cond rfl ?_ ?_
        · intro hc7
          have hp0 : pre.length = 0 := by have h := of_decide_eq_false (not_back hc7); omega
          rw [hp0] at hkx hlx he0 hnl
          replace hkx : x.k = tkK bs := hkx
          replace hlx : x.l = tkL bs := hlx
          replace he0 : tkE bs = 0 := he0
          refine c_seq ?_
          refine c_region ?_
          refine t_q (q_mv (.slice _ _ _) rfl) ?_
          have hp0' := hp0
          refine t_call Try.call81 (oOpen hS) rfl ?_
          rintro e w ⟨g21, rfl, hS⟩
          refine ⟨_, rfl, ?_⟩
          replace hS : St W w (rdO W (rowA 5 1 x.A x.l.length x.c (x.l.map bv)) 197 g21 (te0 bs) :: _) := hS.unrdo (K := rowA 5 1 x.A x.l.length x.c (x.l.map bv)) (s := te0 bs) (by rw [hlx]; rfl) rfl (fun w' hw' => (by have h := hw'.rowRd (.here _ _) rfl; rw [hlx] at h; exact h)) ⟨by show (tkL bs).length ≤ _; rw [← hlx]; exact hxle, by show (tkL bs).length ≤ _; rw [← hlx]; omega⟩
          refine t_q (q_as (.pointer _) rfl) ?_
          refine t_nil ?_
          refine c_seq ?_
          refine c_region ?_
          refine t_q (q_mv (.pointer _) rfl) ?_
          refine t_call Try.call82 (oNat_I hS (by repeat first | exact .here _ _ | assumption | apply Pick.there) (by repeat first | exact .here _ _ | assumption | apply Pick.there)) rfl ?_
          rintro e w ⟨rfl, hS⟩
          refine ⟨_, rfl, ?_⟩
          replace hS := hS.recast (show _ = rdO W (rowA 5 1 x.A x.l.length x.c (x.l.map bv)) 197 g21 (te1 bs) from rfl)
          refine t_q (q_mv (.pointer _) rfl) ?_
          refine t_call Try.call82 (oNat_I hS (by repeat first | exact .here _ _ | assumption | apply Pick.there) (by repeat first | exact .here _ _ | assumption | apply Pick.there)) rfl ?_
          rintro e w ⟨rfl, hS⟩
          refine ⟨_, rfl, ?_⟩
          replace hS := hS.recast (show _ = rdO W (rowA 5 1 x.A x.l.length x.c (x.l.map bv)) 197 g21 (te2 bs) from rfl)
          refine t_q (q_build (qs := [(0, 1), (1, 1), (2, 1)]) [(.int _ _), (.int _ _), (.slice _ _ _)] Try.zeroValue45 Try.runUnderlying45 ⟨rfl, Try.sizeOf43, rfl, Try.sizeOf43, rfl, Try.sizeOf25, trivial⟩ rfl rfl) ?_
          refine t_store (v := (.agg _)) Try.sizeOf45 hS (by repeat first | exact .here _ _ | assumption | apply Pick.there) rfl rfl rfl rfl rfl rfl (fun w hS => ?_)
          replace hS := hS.recast (show blkA g2 45 _ = blkA g2 45 [.int .u64 (telI bs : Int), .int .u64 (telT bs : Int), .slice none 0 0] from rfl)
          refine t_nil ?_
          refine c_seq ?_
          refine c_region ?_
          refine t_q (q_mv (.pointer _) rfl) ?_
          refine t_call Try.call82 (oNat_B hS (by repeat first | exact .here _ _ | assumption | apply Pick.there) (by repeat first | exact .here _ _ | assumption | apply Pick.there)) rfl ?_
          rintro e w ⟨rfl, hS⟩
          refine ⟨_, rfl, ?_⟩
          replace hS := hS.recast (show _ = rdO W (rowA 5 1 x.A x.l.length x.c (x.l.map bv)) 197 g21 (te3 bs) from rfl)
          have htN : ((((te2 bs).nat mB).1 : Nat) : Int) ≤ 524288 := by have := telN_le bs; unfold telN at this; omega
          refine t_q (q_conv_i64 Try.runUnderlying43 Try.runUnderlying3 rfl (by omega)) ?_
          refine t_store (v := (.int _ _)) Try.sizeOf3 hS (by repeat first | exact .here _ _ | assumption | apply Pick.there) rfl rfl rfl rfl rfl rfl (fun w hS => ?_)
          replace hS := hS.recast (show blkA g4 3 _ = blkA g4 3 [.int .i64 (telN bs : Int)] from rfl)
          refine t_nil ?_
          refine c_seq ?_
          refine c_seq ?_
          refine c_region ?_
          refine t_q (q_mv (.int _ _) rfl) ?_
          refine t_q (q_neq rfl rfl) ?_
          refine t_q (q_mv (.bool _) rfl) ?_
          refine t_case 32 rfl ?_ ?_
          · intro hg13
            have hg13d := of_decide_eq_true hg13
            refine t_no rfl rfl (by rw [hg13]; decide) ?_
            refine t_no rfl rfl (by rw [hg13]; decide) ?_
            refine t_no rfl rfl (by rw [hg13]; decide) ?_
            refine t_q (q_pick_t rfl hg13) ?_
            refine t_nil ?_
            refine c_cond_t rfl rfl ?_
            have htn : tel bs = none := tel_nohead fun hh => by
              have h1 := congrArg UInt8.toNat (hkx.trans hh.2.1)
              have h2 := hh.2.2
              have h3 : (5 : UInt8).toNat = 5 := rfl
              omega
            refine c_seq ?_
            refine c_region ?_
            refine t_q (q_build (qs := [(0, 1), (1, 1), (2, 1)]) [(.int _ _), (.int _ _), (.slice _ _ _)] Try.zeroValue45 Try.runUnderlying45 ⟨rfl, Try.sizeOf43, rfl, Try.sizeOf43, rfl, Try.sizeOf25, trivial⟩ rfl rfl) ?_
            refine t_store (v := (.agg _)) Try.sizeOf45 hS (by repeat first | exact .here _ _ | assumption | apply Pick.there) rfl rfl rfl rfl rfl rfl (fun w hS => ?_)
            replace hS := hS.recast (show blkA g2 45 _ = blkA g2 45 [.int .u64 0, .int .u64 0, .slice none 0 0] from rfl)
            refine t_store (v := (.bool _)) Try.sizeOf4 hS (by repeat first | exact .here _ _ | assumption | apply Pick.there) rfl rfl rfl rfl rfl rfl (fun w hS => ?_)
            replace hS := hS.recast (show blkA g3 4 _ = blkA g3 4 [.bool false] from rfl)
            refine t_nil ?_
            refine c_ret ?_
            show St W _ (pureA (tel bs = none) (snA 45 g2 sn0) :: blkA g3 4 [.bool false] :: E)
            refine St.unpure htn (St.unsn sn0 (A := none) (c := 0) ?_)
            replace hS := (hS.pick (A := rowA 5 1 Ab _ cb _) (by repeat first | exact .here _ _ | assumption | apply Pick.there)).drop
            replace hS := (hS.pick (A := rowA 5 1 x.A x.l.length x.c (x.l.map bv)) (by repeat first | exact .here _ _ | assumption | apply Pick.there)).drop
            replace hS := (hS.pick (A := blkA gE 25 [.slice A bs.length c]) (by repeat first | exact .here _ _ | assumption | apply Pick.there)).drop
            replace hS := (hS.pick (A := blkA g4 3 _) (by repeat first | exact .here _ _ | assumption | apply Pick.there)).drop
            replace hS := (hS.pick (A := blkA g5 4 _) (by repeat first | exact .here _ _ | assumption | apply Pick.there)).drop
            first
              | exact ((((((hS.pick (A := rdO W (rowA 5 1 x.A x.l.length x.c (x.l.map bv)) 197 g21 (te3 bs)) (by repeat first | exact .here _ _ | assumption | apply Pick.there)).drop.pick (A := blkA g3 4 [.bool false]) (by repeat first | exact .here _ _ | assumption | apply Pick.there)).pick (A := blkA g2 45 _) (by repeat first | exact .here _ _ | assumption | apply Pick.there))).nilrow 5 1).pick (.there (.here _ _)))
              | exact (((((hS.pick (A := blkA g3 4 [.bool false]) (by repeat first | exact .here _ _ | assumption | apply Pick.there)).pick (A := blkA g2 45 _) (by repeat first | exact .here _ _ | assumption | apply Pick.there))).nilrow 5 1).pick (.there (.here _ _)))
          · intro hg13
            have hg13d := of_decide_eq_false hg13
            refine t_yes rfl rfl hg13 ?_
            refine t_q (q_mv (.pointer _) rfl) ?_
            refine t_yes rfl rfl hg13 ?_
            refine t_call Try.call83 (oEnd hS (by repeat first | exact .here _ _ | assumption | apply Pick.there)) rfl ?_
            rintro e w ⟨rfl, hS⟩
            refine ⟨_, rfl, ?_⟩
            refine t_yes rfl rfl hg13 ?_
            refine t_q (q_neq rfl rfl) ?_
            refine t_q (q_pick_f rfl hg13) ?_
            refine t_nil ?_
            refine c_cond rfl ?_ ?_
            · intro hc16
              have hc16d := of_decide_eq_true hc16
              have htn : tel bs = none := tel_nohead fun hh => by
                have h1 := congrArg UInt8.toNat (hkx.trans hh.2.1)
                have h2 := hh.2.2
                have h3 : (5 : UInt8).toNat = 5 := rfl
                omega
              refine c_seq ?_
              refine c_region ?_
              refine t_q (q_build (qs := [(0, 1), (1, 1), (2, 1)]) [(.int _ _), (.int _ _), (.slice _ _ _)] Try.zeroValue45 Try.runUnderlying45 ⟨rfl, Try.sizeOf43, rfl, Try.sizeOf43, rfl, Try.sizeOf25, trivial⟩ rfl rfl) ?_
              refine t_store (v := (.agg _)) Try.sizeOf45 hS (by repeat first | exact .here _ _ | assumption | apply Pick.there) rfl rfl rfl rfl rfl rfl (fun w hS => ?_)
              replace hS := hS.recast (show blkA g2 45 _ = blkA g2 45 [.int .u64 0, .int .u64 0, .slice none 0 0] from rfl)
              refine t_store (v := (.bool _)) Try.sizeOf4 hS (by repeat first | exact .here _ _ | assumption | apply Pick.there) rfl rfl rfl rfl rfl rfl (fun w hS => ?_)
              replace hS := hS.recast (show blkA g3 4 _ = blkA g3 4 [.bool false] from rfl)
              refine t_nil ?_
              refine c_ret ?_
              show St W _ (pureA (tel bs = none) (snA 45 g2 sn0) :: blkA g3 4 [.bool false] :: E)
              refine St.unpure htn (St.unsn sn0 (A := none) (c := 0) ?_)
              replace hS := (hS.pick (A := rowA 5 1 Ab _ cb _) (by repeat first | exact .here _ _ | assumption | apply Pick.there)).drop
              replace hS := (hS.pick (A := rowA 5 1 x.A x.l.length x.c (x.l.map bv)) (by repeat first | exact .here _ _ | assumption | apply Pick.there)).drop
              replace hS := (hS.pick (A := blkA gE 25 [.slice A bs.length c]) (by repeat first | exact .here _ _ | assumption | apply Pick.there)).drop
              replace hS := (hS.pick (A := blkA g4 3 _) (by repeat first | exact .here _ _ | assumption | apply Pick.there)).drop
              replace hS := (hS.pick (A := blkA g5 4 _) (by repeat first | exact .here _ _ | assumption | apply Pick.there)).drop
              first
                | exact ((((((hS.pick (A := rdO W (rowA 5 1 x.A x.l.length x.c (x.l.map bv)) 197 g21 (te3 bs)) (by repeat first | exact .here _ _ | assumption | apply Pick.there)).drop.pick (A := blkA g3 4 [.bool false]) (by repeat first | exact .here _ _ | assumption | apply Pick.there)).pick (A := blkA g2 45 _) (by repeat first | exact .here _ _ | assumption | apply Pick.there))).nilrow 5 1).pick (.there (.here _ _)))
                | exact (((((hS.pick (A := blkA g3 4 [.bool false]) (by repeat first | exact .here _ _ | assumption | apply Pick.there)).pick (A := blkA g2 45 _) (by repeat first | exact .here _ _ | assumption | apply Pick.there))).nilrow 5 1).pick (.there (.here _ _)))
            · intro hc16
              have hc16d := of_decide_eq_false hc16
              have hhd : headOk bs := ⟨he0, by rw [← hkx]; exact UInt8.toNat_inj.1 (by show x.k.toNat = 5; omega), by omega⟩
              refine c_skip ?_
              refine c_seq ?_
              refine c_region ?_
              refine t_store (v := (.bool _)) Try.sizeOf4 hS (by repeat first | exact .here _ _ | assumption | apply Pick.there) rfl rfl rfl rfl rfl rfl (fun w hS => ?_)
              replace hS := hS.recast (show blkA g5 4 _ = blkA g5 4 [.bool true] from rfl)
              refine t_nil ?_
              refine c_exit ?_
              refine ite_t rfl ?_
              first
                | (have hT := tl_head hhd
                   replace hS := (hS.pick (A := rdO W (rowA 5 1 x.A x.l.length x.c (x.l.map bv)) 197 g21 (te3 bs)) (by repeat first | exact .here _ _ | assumption | apply Pick.there)).drop
                   replace hS := (hS.pick (A := rowA 5 1 Ab _ cb _) (by repeat first | exact .here _ _ | assumption | apply Pick.there)).drop
                   replace hS := (hS.pick (A := rowA 5 1 x.A x.l.length x.c (x.l.map bv)) (by repeat first | exact .here _ _ | assumption | apply Pick.there)).drop
                   show St W _ (blkA gE 25 [.slice A bs.length c] :: tlA bs g2 g4 g5 (pre ++ [x]).length :: blkA g3 4 [.bool false] :: E)
                   have hl1 : (pre ++ [x]).length = 1 := by rw [List.length_append, hp0]; rfl
                   rw [hl1]
                   exact (St.untl (St.unsn ⟨telI bs, telT bs, []⟩ (A := none) (c := 0) ((((((((hS.pick (A := blkA g3 4 [.bool false]) (by repeat first | exact .here _ _ | assumption | apply Pick.there)).pick (A := blkA gE 25 [.slice A bs.length c]) (by repeat first | exact .here _ _ | assumption | apply Pick.there)).pick (A := blkA g5 4 _) (by repeat first | exact .here _ _ | assumption | apply Pick.there)).pick (A := blkA g4 3 _) (by repeat first | exact .here _ _ | assumption | apply Pick.there)).pick (A := blkA g2 45 _) (by repeat first | exact .here _ _ | assumption | apply Pick.there))).nilrow 5 1).pick (.there (.here _ _)))) hT rfl).pick (A := blkA gE 25 [.slice A bs.length c]) (by repeat first | exact .here _ _ | assumption | apply Pick.there))
                | (have hT := tl_more hI hp0 hl0 ⟨he0, hk6, by rw [← hlx]; exact hlen⟩
                   rw [← hlx] at hT
                   replace hS := hS
                   show St W _ (blkA gE 25 [.slice A bs.length c] :: tlA bs g2 g4 g5 (pre ++ [x]).length :: blkA g3 4 [.bool false] :: E)
                   rw [show (pre ++ [x]).length = pre.length + 1 by simp]
                   have h51 := (hS.pick (A := rowA 5 1 A51 _ c51 _) (by repeat first | exact .here _ _ | assumption | apply Pick.there)).recast (show _ = rowA 5 1 A51 (s.b ++ x.l).length c51 ((s.b ++ x.l).map bv) from by rw [List.map_append, List.length_append])
                   have h2 := ((((((h51.pick (A := blkA g3 4 [.bool false]) (by repeat first | exact .here _ _ | assumption | apply Pick.there)).pick (A := blkA gE 25 [.slice A bs.length c]) (by repeat first | exact .here _ _ | assumption | apply Pick.there)).pick (A := blkA g5 4 _) (by repeat first | exact .here _ _ | assumption | apply Pick.there)).pick (A := blkA g4 3 _) (by repeat first | exact .here _ _ | assumption | apply Pick.there)).pick (A := rowA 5 1 A51 _ c51 _) (by repeat first | exact .here _ _ | assumption | apply Pick.there)).pick (A := blkA g2 45 _) (by repeat first | exact .here _ _ | assumption | apply Pick.there))
                   exact (St.untl (St.unsn ⟨s.i, s.t, s.b ++ x.l⟩ (A := A51) (c := c51) (h2.recast (congrArg (fun n => blkA g2 45 [.int .u64 (s.i : Int), .int .u64 (s.t : Int), .slice A51 n c51]) (show s.b.length + x.l.length = (s.b ++ x.l).length from List.length_append.symm)))) hT (by rw [decide_eq_true hp0, decide_eq_true (by omega)])).pick (A := blkA gE 25 [.slice A bs.length c]) (by repeat first | exact .here _ _ | assumption | apply Pick.there))
        · intro hc7
          have hp0 : 0 < pre.length := of_decide_eq_true (not_back hc7)
          have hl0 : left ≠ 0 := by
            first
              | omega
              | (exfalso; have h2 : ¬ 0 < pre.length := of_decide_eq_false (by assumption); omega)
          refine c_skip ?_
          refine c_seq ?_
          refine c_seq ?_
          refine c_region ?_
          refine t_q (q_mv (.int _ _) rfl) ?_
          refine t_q (q_neq rfl rfl) ?_
          refine t_q (q_mv (.bool _) rfl) ?_
          refine t_case 40 rfl ?_ ?_
          · intro hg18
            have hg18d := of_decide_eq_true hg18
            refine t_no rfl rfl (by rw [hg18]; decide) ?_
            refine t_no rfl rfl (by rw [hg18]; decide) ?_
            refine t_no rfl rfl (by rw [hg18]; decide) ?_
            refine t_no rfl rfl (by rw [hg18]; decide) ?_
            refine t_no rfl rfl (by rw [hg18]; decide) ?_
            refine t_q (q_pick_t rfl hg18) ?_
            refine t_nil ?_
            refine c_cond_t rfl rfl ?_
            have htn : tel bs = none := tl_bad hI hp0 hl0 fun hh => by
              have h1 := congrArg UInt8.toNat (hkx.trans hh.2.1)
              have h2 := hh.2.2
              have h3 : (6 : UInt8).toNat = 6 := rfl
              rw [← hlx] at h2
              omega
            refine c_seq ?_
            refine c_region ?_
            refine t_q (q_build (qs := [(0, 1), (1, 1), (2, 1)]) [(.int _ _), (.int _ _), (.slice _ _ _)] Try.zeroValue45 Try.runUnderlying45 ⟨rfl, Try.sizeOf43, rfl, Try.sizeOf43, rfl, Try.sizeOf25, trivial⟩ rfl rfl) ?_
            refine t_store (v := (.agg _)) Try.sizeOf45 hS (by repeat first | exact .here _ _ | assumption | apply Pick.there) rfl rfl rfl rfl rfl rfl (fun w hS => ?_)
            replace hS := hS.recast (show blkA g2 45 _ = blkA g2 45 [.int .u64 0, .int .u64 0, .slice none 0 0] from rfl)
            refine t_store (v := (.bool _)) Try.sizeOf4 hS (by repeat first | exact .here _ _ | assumption | apply Pick.there) rfl rfl rfl rfl rfl rfl (fun w hS => ?_)
            replace hS := hS.recast (show blkA g3 4 _ = blkA g3 4 [.bool false] from rfl)
            refine t_nil ?_
            refine c_ret ?_
            show St W _ (pureA (tel bs = none) (snA 45 g2 sn0) :: blkA g3 4 [.bool false] :: E)
            refine St.unpure htn (St.unsn sn0 (A := none) (c := 0) ?_)
            replace hS := (hS.pick (A := rowA 5 1 Ab _ cb _) (by repeat first | exact .here _ _ | assumption | apply Pick.there)).drop
            replace hS := (hS.pick (A := rowA 5 1 x.A x.l.length x.c (x.l.map bv)) (by repeat first | exact .here _ _ | assumption | apply Pick.there)).drop
            replace hS := (hS.pick (A := blkA gE 25 [.slice A bs.length c]) (by repeat first | exact .here _ _ | assumption | apply Pick.there)).drop
            replace hS := (hS.pick (A := blkA g4 3 _) (by repeat first | exact .here _ _ | assumption | apply Pick.there)).drop
            replace hS := (hS.pick (A := blkA g5 4 _) (by repeat first | exact .here _ _ | assumption | apply Pick.there)).drop
            first
              | exact ((((((hS.pick (A := rdO W (rowA 5 1 x.A x.l.length x.c (x.l.map bv)) 197 g21 (te3 bs)) (by repeat first | exact .here _ _ | assumption | apply Pick.there)).drop.pick (A := blkA g3 4 [.bool false]) (by repeat first | exact .here _ _ | assumption | apply Pick.there)).pick (A := blkA g2 45 _) (by repeat first | exact .here _ _ | assumption | apply Pick.there))).nilrow 5 1).pick (.there (.here _ _)))
              | exact (((((hS.pick (A := blkA g3 4 [.bool false]) (by repeat first | exact .here _ _ | assumption | apply Pick.there)).pick (A := blkA g2 45 _) (by repeat first | exact .here _ _ | assumption | apply Pick.there))).nilrow 5 1).pick (.there (.here _ _)))
          · intro hg18
            have hg18d := of_decide_eq_false hg18
            refine t_yes rfl rfl hg18 ?_
            refine t_q (q_mv (.slice _ _ _) rfl) ?_
            refine t_yes rfl rfl hg18 ?_
            refine t_q (q_len_slice Try.runUnderlying25 rfl) ?_
            refine t_yes rfl rfl hg18 ?_
            refine t_q (q_load1 Try.isAgg3 rfl (hS.cell (by repeat first | exact .here _ _ | assumption | apply Pick.there) rfl)) ?_
            refine t_yes rfl rfl hg18 ?_
            refine t_q (q_min rfl rfl) ?_
            refine t_yes rfl rfl hg18 ?_
            refine t_q (q_neq rfl rfl) ?_
            refine t_q (q_pick_f rfl hg18) ?_
            refine t_nil ?_
            refine c_cond rfl ?_ ?_
            · intro hc20
              have hc20d := of_decide_eq_true hc20
              have htn : tel bs = none := tl_bad hI hp0 hl0 fun hh => by
                have h1 := congrArg UInt8.toNat (hkx.trans hh.2.1)
                have h2 := hh.2.2
                have h3 : (6 : UInt8).toNat = 6 := rfl
                rw [← hlx] at h2
                omega
              refine c_seq ?_
              refine c_region ?_
              refine t_q (q_build (qs := [(0, 1), (1, 1), (2, 1)]) [(.int _ _), (.int _ _), (.slice _ _ _)] Try.zeroValue45 Try.runUnderlying45 ⟨rfl, Try.sizeOf43, rfl, Try.sizeOf43, rfl, Try.sizeOf25, trivial⟩ rfl rfl) ?_
              refine t_store (v := (.agg _)) Try.sizeOf45 hS (by repeat first | exact .here _ _ | assumption | apply Pick.there) rfl rfl rfl rfl rfl rfl (fun w hS => ?_)
              replace hS := hS.recast (show blkA g2 45 _ = blkA g2 45 [.int .u64 0, .int .u64 0, .slice none 0 0] from rfl)
              refine t_store (v := (.bool _)) Try.sizeOf4 hS (by repeat first | exact .here _ _ | assumption | apply Pick.there) rfl rfl rfl rfl rfl rfl (fun w hS => ?_)
              replace hS := hS.recast (show blkA g3 4 _ = blkA g3 4 [.bool false] from rfl)
              refine t_nil ?_
              refine c_ret ?_
              show St W _ (pureA (tel bs = none) (snA 45 g2 sn0) :: blkA g3 4 [.bool false] :: E)
              refine St.unpure htn (St.unsn sn0 (A := none) (c := 0) ?_)
              replace hS := (hS.pick (A := rowA 5 1 Ab _ cb _) (by repeat first | exact .here _ _ | assumption | apply Pick.there)).drop
              replace hS := (hS.pick (A := rowA 5 1 x.A x.l.length x.c (x.l.map bv)) (by repeat first | exact .here _ _ | assumption | apply Pick.there)).drop
              replace hS := (hS.pick (A := blkA gE 25 [.slice A bs.length c]) (by repeat first | exact .here _ _ | assumption | apply Pick.there)).drop
              replace hS := (hS.pick (A := blkA g4 3 _) (by repeat first | exact .here _ _ | assumption | apply Pick.there)).drop
              replace hS := (hS.pick (A := blkA g5 4 _) (by repeat first | exact .here _ _ | assumption | apply Pick.there)).drop
              first
                | exact ((((((hS.pick (A := rdO W (rowA 5 1 x.A x.l.length x.c (x.l.map bv)) 197 g21 (te3 bs)) (by repeat first | exact .here _ _ | assumption | apply Pick.there)).drop.pick (A := blkA g3 4 [.bool false]) (by repeat first | exact .here _ _ | assumption | apply Pick.there)).pick (A := blkA g2 45 _) (by repeat first | exact .here _ _ | assumption | apply Pick.there))).nilrow 5 1).pick (.there (.here _ _)))
                | exact (((((hS.pick (A := blkA g3 4 [.bool false]) (by repeat first | exact .here _ _ | assumption | apply Pick.there)).pick (A := blkA g2 45 _) (by repeat first | exact .here _ _ | assumption | apply Pick.there))).nilrow 5 1).pick (.there (.here _ _)))
            · intro hc20
              have hc20d := of_decide_eq_false hc20
              have hlen : x.l.length = min left 1024 := by omega
              have hk6 : tkK (bs.drop (pos bs pre.length)) = 6 := by rw [← hkx]; exact UInt8.toNat_inj.1 (by show x.k.toNat = 6; omega)
              refine c_skip ?_
              refine c_seq ?_
              refine c_region ?_
              refine t_q (q_fieldAddr 2 Try.runUnderlying45 rfl Try.sizeOf25 (by decide) rfl rfl) ?_
              refine t_q (q_load1 Try.isAgg25 rfl (hS.cell (by repeat first | exact .here _ _ | assumption | apply Pick.there) rfl)) ?_
              refine t_q (q_mv (.slice _ _ _) rfl) ?_
              refine t_append_own (size := 1) (bytes := 1) Try.underlying25 (info_of Try.type5) rfl rfl rfl rfl (by decide) hS (by repeat first | exact .here _ _ | assumption | apply Pick.there) (by repeat first | exact .here _ _ | assumption | apply Pick.there) rfl rfl (by first | exact allOne_bv _ | exact allOne_ints _ _ | rfl) (by unfold maxLen; omega) (by omega) (fun A51 c51 w hS => ?_)
              refine t_q (q_fieldAddr 2 Try.runUnderlying45 rfl Try.sizeOf25 (by decide) rfl rfl) ?_
              refine t_store (v := (.slice _ _ _)) Try.sizeOf25 hS (by repeat first | exact .here _ _ | assumption | apply Pick.there) rfl rfl rfl rfl rfl rfl (fun w hS => ?_)
              replace hS := hS.recast (show blkA g2 45 _ = blkA g2 45 [.int .u64 (s.i : Int), .int .u64 (s.t : Int), .slice A51 (s.b.length + x.l.length) c51] from rfl)
              refine t_nil ?_
              refine c_region ?_
              refine t_q (q_load1 Try.isAgg3 rfl (hS.cell (by repeat first | exact .here _ _ | assumption | apply Pick.there) rfl)) ?_
              refine t_q (q_mv (.slice _ _ _) rfl) ?_
              refine t_q (q_len_slice Try.runUnderlying25 rfl) ?_
              refine t_q (q_sub_i64 rfl rfl (by omega)) ?_
              refine t_store (v := (.int _ _)) Try.sizeOf3 hS (by repeat first | exact .here _ _ | assumption | apply Pick.there) rfl rfl rfl rfl rfl rfl (fun w hS => ?_)
              replace hS := hS.recast (show blkA g4 3 _ = blkA g4 3 [.int .i64 ((left - x.l.length : Nat) : Int)] from congrArg (fun n => blkA g4 3 [Value.int .i64 n]) (by omega))
              refine t_nil ?_
              first
                | (have hT := tl_head hhd
                   replace hS := (hS.pick (A := rdO W (rowA 5 1 x.A x.l.length x.c (x.l.map bv)) 197 g21 (te3 bs)) (by repeat first | exact .here _ _ | assumption | apply Pick.there)).drop
                   replace hS := (hS.pick (A := rowA 5 1 Ab _ cb _) (by repeat first | exact .here _ _ | assumption | apply Pick.there)).drop
                   replace hS := (hS.pick (A := rowA 5 1 x.A x.l.length x.c (x.l.map bv)) (by repeat first | exact .here _ _ | assumption | apply Pick.there)).drop
                   show St W _ (blkA gE 25 [.slice A bs.length c] :: tlA bs g2 g4 g5 (pre ++ [x]).length :: blkA g3 4 [.bool false] :: E)
                   have hl1 : (pre ++ [x]).length = 1 := by rw [List.length_append, hp0]; rfl
                   rw [hl1]
                   exact (St.untl (St.unsn ⟨telI bs, telT bs, []⟩ (A := none) (c := 0) ((((((((hS.pick (A := blkA g3 4 [.bool false]) (by repeat first | exact .here _ _ | assumption | apply Pick.there)).pick (A := blkA gE 25 [.slice A bs.length c]) (by repeat first | exact .here _ _ | assumption | apply Pick.there)).pick (A := blkA g5 4 _) (by repeat first | exact .here _ _ | assumption | apply Pick.there)).pick (A := blkA g4 3 _) (by repeat first | exact .here _ _ | assumption | apply Pick.there)).pick (A := blkA g2 45 _) (by repeat first | exact .here _ _ | assumption | apply Pick.there))).nilrow 5 1).pick (.there (.here _ _)))) hT rfl).pick (A := blkA gE 25 [.slice A bs.length c]) (by repeat first | exact .here _ _ | assumption | apply Pick.there))
                | (have hT := tl_more hI hp0 hl0 ⟨he0, hk6, by rw [← hlx]; exact hlen⟩
                   rw [← hlx] at hT
                   replace hS := hS
                   show St W _ (blkA gE 25 [.slice A bs.length c] :: tlA bs g2 g4 g5 (pre ++ [x]).length :: blkA g3 4 [.bool false] :: E)
                   rw [show (pre ++ [x]).length = pre.length + 1 by simp]
                   have h51 := (hS.pick (A := rowA 5 1 A51 _ c51 _) (by repeat first | exact .here _ _ | assumption | apply Pick.there)).recast (show _ = rowA 5 1 A51 (s.b ++ x.l).length c51 ((s.b ++ x.l).map bv) from by rw [List.map_append, List.length_append])
                   have h2 := ((((((h51.pick (A := blkA g3 4 [.bool false]) (by repeat first | exact .here _ _ | assumption | apply Pick.there)).pick (A := blkA gE 25 [.slice A bs.length c]) (by repeat first | exact .here _ _ | assumption | apply Pick.there)).pick (A := blkA g5 4 _) (by repeat first | exact .here _ _ | assumption | apply Pick.there)).pick (A := blkA g4 3 _) (by repeat first | exact .here _ _ | assumption | apply Pick.there)).pick (A := rowA 5 1 A51 _ c51 _) (by repeat first | exact .here _ _ | assumption | apply Pick.there)).pick (A := blkA g2 45 _) (by repeat first | exact .here _ _ | assumption | apply Pick.there))
                   exact (St.untl (St.unsn ⟨s.i, s.t, s.b ++ x.l⟩ (A := A51) (c := c51) (h2.recast (congrArg (fun n => blkA g2 45 [.int .u64 (s.i : Int), .int .u64 (s.t : Int), .slice A51 n c51]) (show s.b.length + x.l.length = (s.b ++ x.l).length from List.length_append.symm)))) hT (by rw [decide_eq_true hp0, decide_eq_true (by omega)])).pick (A := blkA gE 25 [.slice A bs.length c]) (by repeat first | exact .here _ _ | assumption | apply Pick.there))
    · intro hg3
      refine t_no rfl rfl (by rw [hg3]; decide) ?_
      refine t_no rfl rfl (by rw [hg3]; decide) ?_
      refine t_q (q_pick_f rfl hg3) ?_
      refine t_nil ?_
      refine c_cond_f rfl rfl ?_
      refine c_skip ?_
      refine c_seq ?_
      refine c_seq ?_
      refine c_region ?_
      refine t_q (q_load1 Try.isAgg4 rfl (hS.cell (by repeat first | exact .here _ _ | assumption | apply Pick.there) rfl)) ?_
      refine t_q (q_not rfl) ?_
      refine t_nil ?_
      refine c_cond rfl ?_ ?_
      · intro hc22
        have hp0 : pre.length = 0 := by have h := of_decide_eq_false (not_back hc22); omega
        rw [hp0] at hkx hlx he0 hnl
        replace hkx : x.k = tkK bs := hkx
        replace hlx : x.l = tkL bs := hlx
        replace he0 : tkE bs = 0 := he0
        refine c_seq ?_
        refine c_region ?_
        refine t_q (q_mv (.slice _ _ _) rfl) ?_
        have hp0' := hp0
        refine t_call Try.call81 (oOpen hS) rfl ?_
        rintro e w ⟨g21, rfl, hS⟩
        refine ⟨_, rfl, ?_⟩
        replace hS : St W w (rdO W (rowA 5 1 x.A x.l.length x.c (x.l.map bv)) 197 g21 (te0 bs) :: _) := hS.unrdo (K := rowA 5 1 x.A x.l.length x.c (x.l.map bv)) (s := te0 bs) (by rw [hlx]; rfl) rfl (fun w' hw' => (by have h := hw'.rowRd (.here _ _) rfl; rw [hlx] at h; exact h)) ⟨by show (tkL bs).length ≤ _; rw [← hlx]; exact hxle, by show (tkL bs).length ≤ _; rw [← hlx]; omega⟩
        refine t_q (q_as (.pointer _) rfl) ?_
        refine t_nil ?_
        refine c_seq ?_
        refine c_region ?_
        refine t_q (q_mv (.pointer _) rfl) ?_
        refine t_call Try.call82 (oNat_I hS (by repeat first | exact .here _ _ | assumption | apply Pick.there) (by repeat first | exact .here _ _ | assumption | apply Pick.there)) rfl ?_
        rintro e w ⟨rfl, hS⟩
        refine ⟨_, rfl, ?_⟩
        replace hS := hS.recast (show _ = rdO W (rowA 5 1 x.A x.l.length x.c (x.l.map bv)) 197 g21 (te1 bs) from rfl)
        refine t_q (q_mv (.pointer _) rfl) ?_
        refine t_call Try.call82 (oNat_I hS (by repeat first | exact .here _ _ | assumption | apply Pick.there) (by repeat first | exact .here _ _ | assumption | apply Pick.there)) rfl ?_
        rintro e w ⟨rfl, hS⟩
        refine ⟨_, rfl, ?_⟩
        replace hS := hS.recast (show _ = rdO W (rowA 5 1 x.A x.l.length x.c (x.l.map bv)) 197 g21 (te2 bs) from rfl)
        refine t_q (q_build (qs := [(0, 1), (1, 1), (2, 1)]) [(.int _ _), (.int _ _), (.slice _ _ _)] Try.zeroValue45 Try.runUnderlying45 ⟨rfl, Try.sizeOf43, rfl, Try.sizeOf43, rfl, Try.sizeOf25, trivial⟩ rfl rfl) ?_
        refine t_store (v := (.agg _)) Try.sizeOf45 hS (by repeat first | exact .here _ _ | assumption | apply Pick.there) rfl rfl rfl rfl rfl rfl (fun w hS => ?_)
        replace hS := hS.recast (show blkA g2 45 _ = blkA g2 45 [.int .u64 (telI bs : Int), .int .u64 (telT bs : Int), .slice none 0 0] from rfl)
        refine t_nil ?_
        refine c_seq ?_
        refine c_region ?_
        refine t_q (q_mv (.pointer _) rfl) ?_
        refine t_call Try.call82 (oNat_B hS (by repeat first | exact .here _ _ | assumption | apply Pick.there) (by repeat first | exact .here _ _ | assumption | apply Pick.there)) rfl ?_
        rintro e w ⟨rfl, hS⟩
        refine ⟨_, rfl, ?_⟩
        replace hS := hS.recast (show _ = rdO W (rowA 5 1 x.A x.l.length x.c (x.l.map bv)) 197 g21 (te3 bs) from rfl)
        have htN : ((((te2 bs).nat mB).1 : Nat) : Int) ≤ 524288 := by have := telN_le bs; unfold telN at this; omega
        refine t_q (q_conv_i64 Try.runUnderlying43 Try.runUnderlying3 rfl (by omega)) ?_
        refine t_store (v := (.int _ _)) Try.sizeOf3 hS (by repeat first | exact .here _ _ | assumption | apply Pick.there) rfl rfl rfl rfl rfl rfl (fun w hS => ?_)
        replace hS := hS.recast (show blkA g4 3 _ = blkA g4 3 [.int .i64 (telN bs : Int)] from rfl)
        refine t_nil ?_
        refine c_seq ?_
        refine c_seq ?_
        refine c_region ?_
        refine t_q (q_mv (.int _ _) rfl) ?_
        refine t_q (q_neq rfl rfl) ?_
        refine t_q (q_mv (.bool _) rfl) ?_
        refine t_case 32 rfl ?_ ?_
        · intro hg28
          have hg28d := of_decide_eq_true hg28
          refine t_no rfl rfl (by rw [hg28]; decide) ?_
          refine t_no rfl rfl (by rw [hg28]; decide) ?_
          refine t_no rfl rfl (by rw [hg28]; decide) ?_
          refine t_q (q_pick_t rfl hg28) ?_
          refine t_nil ?_
          refine c_cond_t rfl rfl ?_
          have htn : tel bs = none := tel_nohead fun hh => by
            have h1 := congrArg UInt8.toNat (hkx.trans hh.2.1)
            have h2 := hh.2.2
            have h3 : (5 : UInt8).toNat = 5 := rfl
            omega
          refine c_seq ?_
          refine c_region ?_
          refine t_q (q_build (qs := [(0, 1), (1, 1), (2, 1)]) [(.int _ _), (.int _ _), (.slice _ _ _)] Try.zeroValue45 Try.runUnderlying45 ⟨rfl, Try.sizeOf43, rfl, Try.sizeOf43, rfl, Try.sizeOf25, trivial⟩ rfl rfl) ?_
          refine t_store (v := (.agg _)) Try.sizeOf45 hS (by repeat first | exact .here _ _ | assumption | apply Pick.there) rfl rfl rfl rfl rfl rfl (fun w hS => ?_)
          replace hS := hS.recast (show blkA g2 45 _ = blkA g2 45 [.int .u64 0, .int .u64 0, .slice none 0 0] from rfl)
          refine t_store (v := (.bool _)) Try.sizeOf4 hS (by repeat first | exact .here _ _ | assumption | apply Pick.there) rfl rfl rfl rfl rfl rfl (fun w hS => ?_)
          replace hS := hS.recast (show blkA g3 4 _ = blkA g3 4 [.bool false] from rfl)
          refine t_nil ?_
          refine c_ret ?_
          show St W _ (pureA (tel bs = none) (snA 45 g2 sn0) :: blkA g3 4 [.bool false] :: E)
          refine St.unpure htn (St.unsn sn0 (A := none) (c := 0) ?_)
          replace hS := (hS.pick (A := rowA 5 1 Ab _ cb _) (by repeat first | exact .here _ _ | assumption | apply Pick.there)).drop
          replace hS := (hS.pick (A := rowA 5 1 x.A x.l.length x.c (x.l.map bv)) (by repeat first | exact .here _ _ | assumption | apply Pick.there)).drop
          replace hS := (hS.pick (A := blkA gE 25 [.slice A bs.length c]) (by repeat first | exact .here _ _ | assumption | apply Pick.there)).drop
          replace hS := (hS.pick (A := blkA g4 3 _) (by repeat first | exact .here _ _ | assumption | apply Pick.there)).drop
          replace hS := (hS.pick (A := blkA g5 4 _) (by repeat first | exact .here _ _ | assumption | apply Pick.there)).drop
          first
            | exact ((((((hS.pick (A := rdO W (rowA 5 1 x.A x.l.length x.c (x.l.map bv)) 197 g21 (te3 bs)) (by repeat first | exact .here _ _ | assumption | apply Pick.there)).drop.pick (A := blkA g3 4 [.bool false]) (by repeat first | exact .here _ _ | assumption | apply Pick.there)).pick (A := blkA g2 45 _) (by repeat first | exact .here _ _ | assumption | apply Pick.there))).nilrow 5 1).pick (.there (.here _ _)))
            | exact (((((hS.pick (A := blkA g3 4 [.bool false]) (by repeat first | exact .here _ _ | assumption | apply Pick.there)).pick (A := blkA g2 45 _) (by repeat first | exact .here _ _ | assumption | apply Pick.there))).nilrow 5 1).pick (.there (.here _ _)))
        · intro hg28
          have hg28d := of_decide_eq_false hg28
          refine t_yes rfl rfl hg28 ?_
          refine t_q (q_mv (.pointer _) rfl) ?_
          refine t_yes rfl rfl hg28 ?_
          refine t_call Try.call83 (oEnd hS (by repeat first | exact .here _ _ | assumption | apply Pick.there)) rfl ?_
          rintro e w ⟨rfl, hS⟩
          refine ⟨_, rfl, ?_⟩
          refine t_yes rfl rfl hg28 ?_
          refine t_q (q_neq rfl rfl) ?_
          refine t_q (q_pick_f rfl hg28) ?_
          refine t_nil ?_
          refine c_cond rfl ?_ ?_
          · intro hc31
            have hc31d := of_decide_eq_true hc31
            have htn : tel bs = none := tel_nohead fun hh => by
              have h1 := congrArg UInt8.toNat (hkx.trans hh.2.1)
              have h2 := hh.2.2
              have h3 : (5 : UInt8).toNat = 5 := rfl
              omega
            refine c_seq ?_
            refine c_region ?_
            refine t_q (q_build (qs := [(0, 1), (1, 1), (2, 1)]) [(.int _ _), (.int _ _), (.slice _ _ _)] Try.zeroValue45 Try.runUnderlying45 ⟨rfl, Try.sizeOf43, rfl, Try.sizeOf43, rfl, Try.sizeOf25, trivial⟩ rfl rfl) ?_
            refine t_store (v := (.agg _)) Try.sizeOf45 hS (by repeat first | exact .here _ _ | assumption | apply Pick.there) rfl rfl rfl rfl rfl rfl (fun w hS => ?_)
            replace hS := hS.recast (show blkA g2 45 _ = blkA g2 45 [.int .u64 0, .int .u64 0, .slice none 0 0] from rfl)
            refine t_store (v := (.bool _)) Try.sizeOf4 hS (by repeat first | exact .here _ _ | assumption | apply Pick.there) rfl rfl rfl rfl rfl rfl (fun w hS => ?_)
            replace hS := hS.recast (show blkA g3 4 _ = blkA g3 4 [.bool false] from rfl)
            refine t_nil ?_
            refine c_ret ?_
            show St W _ (pureA (tel bs = none) (snA 45 g2 sn0) :: blkA g3 4 [.bool false] :: E)
            refine St.unpure htn (St.unsn sn0 (A := none) (c := 0) ?_)
            replace hS := (hS.pick (A := rowA 5 1 Ab _ cb _) (by repeat first | exact .here _ _ | assumption | apply Pick.there)).drop
            replace hS := (hS.pick (A := rowA 5 1 x.A x.l.length x.c (x.l.map bv)) (by repeat first | exact .here _ _ | assumption | apply Pick.there)).drop
            replace hS := (hS.pick (A := blkA gE 25 [.slice A bs.length c]) (by repeat first | exact .here _ _ | assumption | apply Pick.there)).drop
            replace hS := (hS.pick (A := blkA g4 3 _) (by repeat first | exact .here _ _ | assumption | apply Pick.there)).drop
            replace hS := (hS.pick (A := blkA g5 4 _) (by repeat first | exact .here _ _ | assumption | apply Pick.there)).drop
            first
              | exact ((((((hS.pick (A := rdO W (rowA 5 1 x.A x.l.length x.c (x.l.map bv)) 197 g21 (te3 bs)) (by repeat first | exact .here _ _ | assumption | apply Pick.there)).drop.pick (A := blkA g3 4 [.bool false]) (by repeat first | exact .here _ _ | assumption | apply Pick.there)).pick (A := blkA g2 45 _) (by repeat first | exact .here _ _ | assumption | apply Pick.there))).nilrow 5 1).pick (.there (.here _ _)))
              | exact (((((hS.pick (A := blkA g3 4 [.bool false]) (by repeat first | exact .here _ _ | assumption | apply Pick.there)).pick (A := blkA g2 45 _) (by repeat first | exact .here _ _ | assumption | apply Pick.there))).nilrow 5 1).pick (.there (.here _ _)))
          · intro hc31
            have hc31d := of_decide_eq_false hc31
            have hhd : headOk bs := ⟨he0, by rw [← hkx]; exact UInt8.toNat_inj.1 (by show x.k.toNat = 5; omega), by omega⟩
            refine c_skip ?_
            refine c_seq ?_
            refine c_region ?_
            refine t_store (v := (.bool _)) Try.sizeOf4 hS (by repeat first | exact .here _ _ | assumption | apply Pick.there) rfl rfl rfl rfl rfl rfl (fun w hS => ?_)
            replace hS := hS.recast (show blkA g5 4 _ = blkA g5 4 [.bool true] from rfl)
            refine t_nil ?_
            refine c_exit ?_
            refine ite_t rfl ?_
            first
              | (have hT := tl_head hhd
                 replace hS := (hS.pick (A := rdO W (rowA 5 1 x.A x.l.length x.c (x.l.map bv)) 197 g21 (te3 bs)) (by repeat first | exact .here _ _ | assumption | apply Pick.there)).drop
                 replace hS := (hS.pick (A := rowA 5 1 Ab _ cb _) (by repeat first | exact .here _ _ | assumption | apply Pick.there)).drop
                 replace hS := (hS.pick (A := rowA 5 1 x.A x.l.length x.c (x.l.map bv)) (by repeat first | exact .here _ _ | assumption | apply Pick.there)).drop
                 show St W _ (blkA gE 25 [.slice A bs.length c] :: tlA bs g2 g4 g5 (pre ++ [x]).length :: blkA g3 4 [.bool false] :: E)
                 have hl1 : (pre ++ [x]).length = 1 := by rw [List.length_append, hp0]; rfl
                 rw [hl1]
                 exact (St.untl (St.unsn ⟨telI bs, telT bs, []⟩ (A := none) (c := 0) ((((((((hS.pick (A := blkA g3 4 [.bool false]) (by repeat first | exact .here _ _ | assumption | apply Pick.there)).pick (A := blkA gE 25 [.slice A bs.length c]) (by repeat first | exact .here _ _ | assumption | apply Pick.there)).pick (A := blkA g5 4 _) (by repeat first | exact .here _ _ | assumption | apply Pick.there)).pick (A := blkA g4 3 _) (by repeat first | exact .here _ _ | assumption | apply Pick.there)).pick (A := blkA g2 45 _) (by repeat first | exact .here _ _ | assumption | apply Pick.there))).nilrow 5 1).pick (.there (.here _ _)))) hT rfl).pick (A := blkA gE 25 [.slice A bs.length c]) (by repeat first | exact .here _ _ | assumption | apply Pick.there))
              | (have hT := tl_more hI hp0 hl0 ⟨he0, hk6, by rw [← hlx]; exact hlen⟩
                 rw [← hlx] at hT
                 replace hS := hS
                 show St W _ (blkA gE 25 [.slice A bs.length c] :: tlA bs g2 g4 g5 (pre ++ [x]).length :: blkA g3 4 [.bool false] :: E)
                 rw [show (pre ++ [x]).length = pre.length + 1 by simp]
                 have h51 := (hS.pick (A := rowA 5 1 A51 _ c51 _) (by repeat first | exact .here _ _ | assumption | apply Pick.there)).recast (show _ = rowA 5 1 A51 (s.b ++ x.l).length c51 ((s.b ++ x.l).map bv) from by rw [List.map_append, List.length_append])
                 have h2 := ((((((h51.pick (A := blkA g3 4 [.bool false]) (by repeat first | exact .here _ _ | assumption | apply Pick.there)).pick (A := blkA gE 25 [.slice A bs.length c]) (by repeat first | exact .here _ _ | assumption | apply Pick.there)).pick (A := blkA g5 4 _) (by repeat first | exact .here _ _ | assumption | apply Pick.there)).pick (A := blkA g4 3 _) (by repeat first | exact .here _ _ | assumption | apply Pick.there)).pick (A := rowA 5 1 A51 _ c51 _) (by repeat first | exact .here _ _ | assumption | apply Pick.there)).pick (A := blkA g2 45 _) (by repeat first | exact .here _ _ | assumption | apply Pick.there))
                 exact (St.untl (St.unsn ⟨s.i, s.t, s.b ++ x.l⟩ (A := A51) (c := c51) (h2.recast (congrArg (fun n => blkA g2 45 [.int .u64 (s.i : Int), .int .u64 (s.t : Int), .slice A51 n c51]) (show s.b.length + x.l.length = (s.b ++ x.l).length from List.length_append.symm)))) hT (by rw [decide_eq_true hp0, decide_eq_true (by omega)])).pick (A := blkA gE 25 [.slice A bs.length c]) (by repeat first | exact .here _ _ | assumption | apply Pick.there))
      · intro hc22
        have hp0 : 0 < pre.length := of_decide_eq_true (not_back hc22)
        have hl0 : left ≠ 0 := by
          first
            | omega
            | (exfalso; have h2 : ¬ 0 < pre.length := of_decide_eq_false (by assumption); omega)
        refine c_skip ?_
        refine c_seq ?_
        refine c_seq ?_
        refine c_region ?_
        refine t_q (q_mv (.int _ _) rfl) ?_
        refine t_q (q_neq rfl rfl) ?_
        refine t_q (q_mv (.bool _) rfl) ?_
        refine t_case 40 rfl ?_ ?_
        · intro hg33
          have hg33d := of_decide_eq_true hg33
          refine t_no rfl rfl (by rw [hg33]; decide) ?_
          refine t_no rfl rfl (by rw [hg33]; decide) ?_
          refine t_no rfl rfl (by rw [hg33]; decide) ?_
          refine t_no rfl rfl (by rw [hg33]; decide) ?_
          refine t_no rfl rfl (by rw [hg33]; decide) ?_
          refine t_q (q_pick_t rfl hg33) ?_
          refine t_nil ?_
          refine c_cond_t rfl rfl ?_
          have htn : tel bs = none := tl_bad hI hp0 hl0 fun hh => by
            have h1 := congrArg UInt8.toNat (hkx.trans hh.2.1)
            have h2 := hh.2.2
            have h3 : (6 : UInt8).toNat = 6 := rfl
            rw [← hlx] at h2
            omega
          refine c_seq ?_
          refine c_region ?_
          refine t_q (q_build (qs := [(0, 1), (1, 1), (2, 1)]) [(.int _ _), (.int _ _), (.slice _ _ _)] Try.zeroValue45 Try.runUnderlying45 ⟨rfl, Try.sizeOf43, rfl, Try.sizeOf43, rfl, Try.sizeOf25, trivial⟩ rfl rfl) ?_
          refine t_store (v := (.agg _)) Try.sizeOf45 hS (by repeat first | exact .here _ _ | assumption | apply Pick.there) rfl rfl rfl rfl rfl rfl (fun w hS => ?_)
          replace hS := hS.recast (show blkA g2 45 _ = blkA g2 45 [.int .u64 0, .int .u64 0, .slice none 0 0] from rfl)
          refine t_store (v := (.bool _)) Try.sizeOf4 hS (by repeat first | exact .here _ _ | assumption | apply Pick.there) rfl rfl rfl rfl rfl rfl (fun w hS => ?_)
          replace hS := hS.recast (show blkA g3 4 _ = blkA g3 4 [.bool false] from rfl)
          refine t_nil ?_
          refine c_ret ?_
          show St W _ (pureA (tel bs = none) (snA 45 g2 sn0) :: blkA g3 4 [.bool false] :: E)
          refine St.unpure htn (St.unsn sn0 (A := none) (c := 0) ?_)
          replace hS := (hS.pick (A := rowA 5 1 Ab _ cb _) (by repeat first | exact .here _ _ | assumption | apply Pick.there)).drop
          replace hS := (hS.pick (A := rowA 5 1 x.A x.l.length x.c (x.l.map bv)) (by repeat first | exact .here _ _ | assumption | apply Pick.there)).drop
          replace hS := (hS.pick (A := blkA gE 25 [.slice A bs.length c]) (by repeat first | exact .here _ _ | assumption | apply Pick.there)).drop
          replace hS := (hS.pick (A := blkA g4 3 _) (by repeat first | exact .here _ _ | assumption | apply Pick.there)).drop
          replace hS := (hS.pick (A := blkA g5 4 _) (by repeat first | exact .here _ _ | assumption | apply Pick.there)).drop
          first
            | exact ((((((hS.pick (A := rdO W (rowA 5 1 x.A x.l.length x.c (x.l.map bv)) 197 g21 (te3 bs)) (by repeat first | exact .here _ _ | assumption | apply Pick.there)).drop.pick (A := blkA g3 4 [.bool false]) (by repeat first | exact .here _ _ | assumption | apply Pick.there)).pick (A := blkA g2 45 _) (by repeat first | exact .here _ _ | assumption | apply Pick.there))).nilrow 5 1).pick (.there (.here _ _)))
            | exact (((((hS.pick (A := blkA g3 4 [.bool false]) (by repeat first | exact .here _ _ | assumption | apply Pick.there)).pick (A := blkA g2 45 _) (by repeat first | exact .here _ _ | assumption | apply Pick.there))).nilrow 5 1).pick (.there (.here _ _)))
        · intro hg33
          have hg33d := of_decide_eq_false hg33
          refine t_yes rfl rfl hg33 ?_
          refine t_q (q_mv (.slice _ _ _) rfl) ?_
          refine t_yes rfl rfl hg33 ?_
          refine t_q (q_len_slice Try.runUnderlying25 rfl) ?_
          refine t_yes rfl rfl hg33 ?_
          refine t_q (q_load1 Try.isAgg3 rfl (hS.cell (by repeat first | exact .here _ _ | assumption | apply Pick.there) rfl)) ?_
          refine t_yes rfl rfl hg33 ?_
          refine t_q (q_min rfl rfl) ?_
          refine t_yes rfl rfl hg33 ?_
          refine t_q (q_neq rfl rfl) ?_
          refine t_q (q_pick_f rfl hg33) ?_
          refine t_nil ?_
          refine c_cond rfl ?_ ?_
          · intro hc35
            have hc35d := of_decide_eq_true hc35
            have htn : tel bs = none := tl_bad hI hp0 hl0 fun hh => by
              have h1 := congrArg UInt8.toNat (hkx.trans hh.2.1)
              have h2 := hh.2.2
              have h3 : (6 : UInt8).toNat = 6 := rfl
              rw [← hlx] at h2
              omega
            refine c_seq ?_
            refine c_region ?_
            refine t_q (q_build (qs := [(0, 1), (1, 1), (2, 1)]) [(.int _ _), (.int _ _), (.slice _ _ _)] Try.zeroValue45 Try.runUnderlying45 ⟨rfl, Try.sizeOf43, rfl, Try.sizeOf43, rfl, Try.sizeOf25, trivial⟩ rfl rfl) ?_
            refine t_store (v := (.agg _)) Try.sizeOf45 hS (by repeat first | exact .here _ _ | assumption | apply Pick.there) rfl rfl rfl rfl rfl rfl (fun w hS => ?_)
            replace hS := hS.recast (show blkA g2 45 _ = blkA g2 45 [.int .u64 0, .int .u64 0, .slice none 0 0] from rfl)
            refine t_store (v := (.bool _)) Try.sizeOf4 hS (by repeat first | exact .here _ _ | assumption | apply Pick.there) rfl rfl rfl rfl rfl rfl (fun w hS => ?_)
            replace hS := hS.recast (show blkA g3 4 _ = blkA g3 4 [.bool false] from rfl)
            refine t_nil ?_
            refine c_ret ?_
            show St W _ (pureA (tel bs = none) (snA 45 g2 sn0) :: blkA g3 4 [.bool false] :: E)
            refine St.unpure htn (St.unsn sn0 (A := none) (c := 0) ?_)
            replace hS := (hS.pick (A := rowA 5 1 Ab _ cb _) (by repeat first | exact .here _ _ | assumption | apply Pick.there)).drop
            replace hS := (hS.pick (A := rowA 5 1 x.A x.l.length x.c (x.l.map bv)) (by repeat first | exact .here _ _ | assumption | apply Pick.there)).drop
            replace hS := (hS.pick (A := blkA gE 25 [.slice A bs.length c]) (by repeat first | exact .here _ _ | assumption | apply Pick.there)).drop
            replace hS := (hS.pick (A := blkA g4 3 _) (by repeat first | exact .here _ _ | assumption | apply Pick.there)).drop
            replace hS := (hS.pick (A := blkA g5 4 _) (by repeat first | exact .here _ _ | assumption | apply Pick.there)).drop
            first
              | exact ((((((hS.pick (A := rdO W (rowA 5 1 x.A x.l.length x.c (x.l.map bv)) 197 g21 (te3 bs)) (by repeat first | exact .here _ _ | assumption | apply Pick.there)).drop.pick (A := blkA g3 4 [.bool false]) (by repeat first | exact .here _ _ | assumption | apply Pick.there)).pick (A := blkA g2 45 _) (by repeat first | exact .here _ _ | assumption | apply Pick.there))).nilrow 5 1).pick (.there (.here _ _)))
              | exact (((((hS.pick (A := blkA g3 4 [.bool false]) (by repeat first | exact .here _ _ | assumption | apply Pick.there)).pick (A := blkA g2 45 _) (by repeat first | exact .here _ _ | assumption | apply Pick.there))).nilrow 5 1).pick (.there (.here _ _)))
          · intro hc35
            have hc35d := of_decide_eq_false hc35
            have hlen : x.l.length = min left 1024 := by omega
            have hk6 : tkK (bs.drop (pos bs pre.length)) = 6 := by rw [← hkx]; exact UInt8.toNat_inj.1 (by show x.k.toNat = 6; omega)
            refine c_skip ?_
            refine c_seq ?_
            refine c_region ?_
            refine t_q (q_fieldAddr 2 Try.runUnderlying45 rfl Try.sizeOf25 (by decide) rfl rfl) ?_
            refine t_q (q_load1 Try.isAgg25 rfl (hS.cell (by repeat first | exact .here _ _ | assumption | apply Pick.there) rfl)) ?_
            refine t_q (q_mv (.slice _ _ _) rfl) ?_
            refine t_append_own (size := 1) (bytes := 1) Try.underlying25 (info_of Try.type5) rfl rfl rfl rfl (by decide) hS (by repeat first | exact .here _ _ | assumption | apply Pick.there) (by repeat first | exact .here _ _ | assumption | apply Pick.there) rfl rfl (by first | exact allOne_bv _ | exact allOne_ints _ _ | rfl) (by unfold maxLen; omega) (by omega) (fun A51 c51 w hS => ?_)
            refine t_q (q_fieldAddr 2 Try.runUnderlying45 rfl Try.sizeOf25 (by decide) rfl rfl) ?_
            refine t_store (v := (.slice _ _ _)) Try.sizeOf25 hS (by repeat first | exact .here _ _ | assumption | apply Pick.there) rfl rfl rfl rfl rfl rfl (fun w hS => ?_)
            replace hS := hS.recast (show blkA g2 45 _ = blkA g2 45 [.int .u64 (s.i : Int), .int .u64 (s.t : Int), .slice A51 (s.b.length + x.l.length) c51] from rfl)
            refine t_nil ?_
            refine c_region ?_
            refine t_q (q_load1 Try.isAgg3 rfl (hS.cell (by repeat first | exact .here _ _ | assumption | apply Pick.there) rfl)) ?_
            refine t_q (q_mv (.slice _ _ _) rfl) ?_
            refine t_q (q_len_slice Try.runUnderlying25 rfl) ?_
            refine t_q (q_sub_i64 rfl rfl (by omega)) ?_
            refine t_store (v := (.int _ _)) Try.sizeOf3 hS (by repeat first | exact .here _ _ | assumption | apply Pick.there) rfl rfl rfl rfl rfl rfl (fun w hS => ?_)
            replace hS := hS.recast (show blkA g4 3 _ = blkA g4 3 [.int .i64 ((left - x.l.length : Nat) : Int)] from congrArg (fun n => blkA g4 3 [Value.int .i64 n]) (by omega))
            refine t_nil ?_
            first
              | (have hT := tl_head hhd
                 replace hS := (hS.pick (A := rdO W (rowA 5 1 x.A x.l.length x.c (x.l.map bv)) 197 g21 (te3 bs)) (by repeat first | exact .here _ _ | assumption | apply Pick.there)).drop
                 replace hS := (hS.pick (A := rowA 5 1 Ab _ cb _) (by repeat first | exact .here _ _ | assumption | apply Pick.there)).drop
                 replace hS := (hS.pick (A := rowA 5 1 x.A x.l.length x.c (x.l.map bv)) (by repeat first | exact .here _ _ | assumption | apply Pick.there)).drop
                 show St W _ (blkA gE 25 [.slice A bs.length c] :: tlA bs g2 g4 g5 (pre ++ [x]).length :: blkA g3 4 [.bool false] :: E)
                 have hl1 : (pre ++ [x]).length = 1 := by rw [List.length_append, hp0]; rfl
                 rw [hl1]
                 exact (St.untl (St.unsn ⟨telI bs, telT bs, []⟩ (A := none) (c := 0) ((((((((hS.pick (A := blkA g3 4 [.bool false]) (by repeat first | exact .here _ _ | assumption | apply Pick.there)).pick (A := blkA gE 25 [.slice A bs.length c]) (by repeat first | exact .here _ _ | assumption | apply Pick.there)).pick (A := blkA g5 4 _) (by repeat first | exact .here _ _ | assumption | apply Pick.there)).pick (A := blkA g4 3 _) (by repeat first | exact .here _ _ | assumption | apply Pick.there)).pick (A := blkA g2 45 _) (by repeat first | exact .here _ _ | assumption | apply Pick.there))).nilrow 5 1).pick (.there (.here _ _)))) hT rfl).pick (A := blkA gE 25 [.slice A bs.length c]) (by repeat first | exact .here _ _ | assumption | apply Pick.there))
              | (have hT := tl_more hI hp0 hl0 ⟨he0, hk6, by rw [← hlx]; exact hlen⟩
                 rw [← hlx] at hT
                 replace hS := hS
                 show St W _ (blkA gE 25 [.slice A bs.length c] :: tlA bs g2 g4 g5 (pre ++ [x]).length :: blkA g3 4 [.bool false] :: E)
                 rw [show (pre ++ [x]).length = pre.length + 1 by simp]
                 have h51 := (hS.pick (A := rowA 5 1 A51 _ c51 _) (by repeat first | exact .here _ _ | assumption | apply Pick.there)).recast (show _ = rowA 5 1 A51 (s.b ++ x.l).length c51 ((s.b ++ x.l).map bv) from by rw [List.map_append, List.length_append])
                 have h2 := ((((((h51.pick (A := blkA g3 4 [.bool false]) (by repeat first | exact .here _ _ | assumption | apply Pick.there)).pick (A := blkA gE 25 [.slice A bs.length c]) (by repeat first | exact .here _ _ | assumption | apply Pick.there)).pick (A := blkA g5 4 _) (by repeat first | exact .here _ _ | assumption | apply Pick.there)).pick (A := blkA g4 3 _) (by repeat first | exact .here _ _ | assumption | apply Pick.there)).pick (A := rowA 5 1 A51 _ c51 _) (by repeat first | exact .here _ _ | assumption | apply Pick.there)).pick (A := blkA g2 45 _) (by repeat first | exact .here _ _ | assumption | apply Pick.there))
                 exact (St.untl (St.unsn ⟨s.i, s.t, s.b ++ x.l⟩ (A := A51) (c := c51) (h2.recast (congrArg (fun n => blkA g2 45 [.int .u64 (s.i : Int), .int .u64 (s.t : Int), .slice A51 n c51]) (show s.b.length + x.l.length = (s.b ++ x.l).length from List.length_append.symm)))) hT (by rw [decide_eq_true hp0, decide_eq_true (by omega)])).pick (A := blkA gE 25 [.slice A bs.length c]) (by repeat first | exact .here _ _ | assumption | apply Pick.there))
  case hit =>
    intro l J Jx h1 h2 h3 hY w h0
    exact each1_calls hR hc (fun pre M w h => by obtain ⟨E, hS⟩ := h1 pre M w h; exact ⟨_, hS⟩) h2 h3 hY h0
  case exit =>
    intro D1 i pre w hS
    replace hS : St W w [brkA bs g2 g4 g5 i, blkA g3 4 [.bool false], objA D1 doneObj] := hS
    obtain ⟨s, rfl, hts0, hS⟩ := hS.brk
    obtain ⟨Ab, cb, hS⟩ := hS.sn
    refine ite_t rfl ?_
    refine m_of ?_
    refine c_seq ?_
    refine c_seq ?_
    refine c_region ?_
    refine t_q (q_load1 Try.isAgg4 rfl (hS.cell (by repeat first | exact .here _ _ | assumption | apply Pick.there) rfl)) ?_
    refine t_q (q_not rfl) ?_
    refine t_q (q_mv (.bool _) rfl) ?_
    refine t_case 59 rfl ?_ ?_
    · intro hg37
      refine t_no rfl rfl (by rw [(congrArg not (not_back hg37))]; decide) ?_
      refine t_no rfl rfl (by rw [(congrArg not (not_back hg37))]; decide) ?_
      refine t_q (q_pick_t rfl (congrArg not (not_back hg37))) ?_
      refine t_nil ?_
      refine c_cond_t rfl rfl ?_
      have htn : tel bs = none := by
        first
          | (exfalso; omega)
          | exact absurd ‹(!true) = true› (by decide)
          | (rcases Nat.eq_zero_or_pos xs.length with h0 | h0
             · rw [h0] at hne; exact tel_none hne
             · refine tl_bad hI h0 ?_ (fun hh => hne hh.1)
               intro hl
               first
                 | omega
                 | exact absurd h0 (of_decide_eq_false (not_back ‹(!decide (0 < xs.length)) = true›)))
      refine c_seq ?_
      refine c_region ?_
      refine t_q (q_build (qs := [(0, 1), (1, 1), (2, 1)]) [(.int _ _), (.int _ _), (.slice _ _ _)] Try.zeroValue45 Try.runUnderlying45 ⟨rfl, Try.sizeOf43, rfl, Try.sizeOf43, rfl, Try.sizeOf25, trivial⟩ rfl rfl) ?_
      refine t_store (v := (.agg _)) Try.sizeOf45 hS (by repeat first | exact .here _ _ | assumption | apply Pick.there) rfl rfl rfl rfl rfl rfl (fun w hS => ?_)
      refine t_store (v := (.bool _)) Try.sizeOf4 hS (by repeat first | exact .here _ _ | assumption | apply Pick.there) rfl rfl rfl rfl rfl rfl (fun w hS => ?_)
      refine t_nil ?_
      refine c_ret ?_
      refine l_mark (hS.obj (g := D1) (by repeat first | exact .here _ _ | assumption | apply Pick.there)) ?_
      replace hS := (hS.pick (A := objA D1 _) (by repeat first | exact .here _ _ | assumption | apply Pick.there)).setObj (.deferred none)
      refine l_nil ?_
      refine r_two rfl (res1_cellN Try.isAgg45 Try.sizeOf45 rfl (hS.blk (by repeat first | exact .here _ _ | assumption | apply Pick.there)) rfl) (res1_cell1 Try.isAgg4 rfl (hS.cell (by repeat first | exact .here _ _ | assumption | apply Pick.there) rfl)) ?_
      first
        | (have e1 : telS bs = sn0 := by unfold telS; rw [htn]; rfl
           have e2 : (tel bs).isSome = false := by rw [htn]; rfl
           rw [e1, e2]
           first
             | exact ⟨none, 0, rfl, hS.nil.nilrow 5 1⟩
             | exact ⟨Ab, cb, rfl, (hS.pick (A := rowA 5 1 Ab _ cb _) (by repeat first | exact .here _ _ | assumption | apply Pick.there)).front1⟩)
        | (have e1 : telS bs = s := by unfold telS; rw [hts]; rfl
           have e2 : (tel bs).isSome = true := by rw [hts]; rfl
           rw [e1, e2]
           exact ⟨Ab, cb, rfl, (hS.pick (A := rowA 5 1 Ab _ cb _) (by repeat first | exact .here _ _ | assumption | apply Pick.there)).front1⟩)
    · intro hg37
      refine t_yes rfl rfl (congrArg not (not_back hg37)) ?_
      refine t_q (q_load1 Try.isAgg3 rfl (hS.cell (by repeat first | exact .here _ _ | assumption | apply Pick.there) rfl)) ?_
      refine t_yes rfl rfl (congrArg not (not_back hg37)) ?_
      refine t_q (q_gtr rfl rfl) ?_
      refine t_q (q_pick_f rfl (congrArg not (not_back hg37))) ?_
      refine t_nil ?_
      refine c_cond rfl ?_ ?_
      · intro hc39
        have hc39d := of_decide_eq_true hc39
        have htn : tel bs = none := by
          first
            | (exfalso; omega)
            | exact absurd ‹(!true) = true› (by decide)
            | (rcases Nat.eq_zero_or_pos xs.length with h0 | h0
               · rw [h0] at hne; exact tel_none hne
               · refine tl_bad hI h0 ?_ (fun hh => hne hh.1)
                 intro hl
                 first
                   | omega
                   | exact absurd h0 (of_decide_eq_false (not_back ‹(!decide (0 < xs.length)) = true›)))
        refine c_seq ?_
        refine c_region ?_
        refine t_q (q_build (qs := [(0, 1), (1, 1), (2, 1)]) [(.int _ _), (.int _ _), (.slice _ _ _)] Try.zeroValue45 Try.runUnderlying45 ⟨rfl, Try.sizeOf43, rfl, Try.sizeOf43, rfl, Try.sizeOf25, trivial⟩ rfl rfl) ?_
        refine t_store (v := (.agg _)) Try.sizeOf45 hS (by repeat first | exact .here _ _ | assumption | apply Pick.there) rfl rfl rfl rfl rfl rfl (fun w hS => ?_)
        refine t_store (v := (.bool _)) Try.sizeOf4 hS (by repeat first | exact .here _ _ | assumption | apply Pick.there) rfl rfl rfl rfl rfl rfl (fun w hS => ?_)
        refine t_nil ?_
        refine c_ret ?_
        refine l_mark (hS.obj (g := D1) (by repeat first | exact .here _ _ | assumption | apply Pick.there)) ?_
        replace hS := (hS.pick (A := objA D1 _) (by repeat first | exact .here _ _ | assumption | apply Pick.there)).setObj (.deferred none)
        refine l_nil ?_
        refine r_two rfl (res1_cellN Try.isAgg45 Try.sizeOf45 rfl (hS.blk (by repeat first | exact .here _ _ | assumption | apply Pick.there)) rfl) (res1_cell1 Try.isAgg4 rfl (hS.cell (by repeat first | exact .here _ _ | assumption | apply Pick.there) rfl)) ?_
        first
          | (have e1 : telS bs = sn0 := by unfold telS; rw [htn]; rfl
             have e2 : (tel bs).isSome = false := by rw [htn]; rfl
             rw [e1, e2]
             first
               | exact ⟨none, 0, rfl, hS.nil.nilrow 5 1⟩
               | exact ⟨Ab, cb, rfl, (hS.pick (A := rowA 5 1 Ab _ cb _) (by repeat first | exact .here _ _ | assumption | apply Pick.there)).front1⟩)
          | (have e1 : telS bs = s := by unfold telS; rw [hts]; rfl
             have e2 : (tel bs).isSome = true := by rw [hts]; rfl
             rw [e1, e2]
             exact ⟨Ab, cb, rfl, (hS.pick (A := rowA 5 1 Ab _ cb _) (by repeat first | exact .here _ _ | assumption | apply Pick.there)).front1⟩)
      · intro hc39
        have hc39d := of_decide_eq_false hc39
        have hts : tel bs = some s := by
          first
            | exact hts0
            | (have h1 : left = 0 := by omega
               have h2 : 0 < xs.length := of_decide_eq_true (not_back ‹(!decide (0 < xs.length)) = false›)
               subst h1; exact tl_done hI h2)
        refine c_skip ?_
        refine c_seq ?_
        refine c_region ?_
        refine t_q (q_load_blk Try.isAgg45 Try.sizeOf45 rfl (hS.blk (by repeat first | exact .here _ _ | assumption | apply Pick.there)) rfl) ?_
        refine t_store (v := (.agg _)) Try.sizeOf45 hS (by repeat first | exact .here _ _ | assumption | apply Pick.there) rfl rfl rfl rfl rfl rfl (fun w hS => ?_)
        refine t_store (v := (.bool _)) Try.sizeOf4 hS (by repeat first | exact .here _ _ | assumption | apply Pick.there) rfl rfl rfl rfl rfl rfl (fun w hS => ?_)
        refine t_nil ?_
        refine c_ret ?_
        refine l_mark (hS.obj (g := D1) (by repeat first | exact .here _ _ | assumption | apply Pick.there)) ?_
        replace hS := (hS.pick (A := objA D1 _) (by repeat first | exact .here _ _ | assumption | apply Pick.there)).setObj (.deferred none)
        refine l_nil ?_
        refine r_two rfl (res1_cellN Try.isAgg45 Try.sizeOf45 rfl (hS.blk (by repeat first | exact .here _ _ | assumption | apply Pick.there)) rfl) (res1_cell1 Try.isAgg4 rfl (hS.cell (by repeat first | exact .here _ _ | assumption | apply Pick.there) rfl)) ?_
        first
          | (have e1 : telS bs = sn0 := by unfold telS; rw [htn]; rfl
             have e2 : (tel bs).isSome = false := by rw [htn]; rfl
             rw [e1, e2]
             first
               | exact ⟨none, 0, rfl, hS.nil.nilrow 5 1⟩
               | exact ⟨Ab, cb, rfl, (hS.pick (A := rowA 5 1 Ab _ cb _) (by repeat first | exact .here _ _ | assumption | apply Pick.there)).front1⟩)
          | (have e1 : telS bs = s := by unfold telS; rw [hts]; rfl
             have e2 : (tel bs).isSome = true := by rw [hts]; rfl
             rw [e1, e2]
             exact ⟨Ab, cb, rfl, (hS.pick (A := rowA 5 1 Ab _ cb _) (by repeat first | exact .here _ _ | assumption | apply Pick.there)).front1⟩)
  case ret =>
    intro D1 pre w hS
    replace hS : St W w [pureA (tel bs = none) (snA 45 g2 sn0), blkA g3 4 [.bool false], objA D1 doneObj] := hS
    obtain ⟨htn, hS⟩ := hS.pure
    obtain ⟨Ab, cb, hS⟩ := hS.sn
    refine l_mark (hS.obj (g := D1) (by repeat first | exact .here _ _ | assumption | apply Pick.there)) ?_
    replace hS := (hS.pick (A := objA D1 _) (by repeat first | exact .here _ _ | assumption | apply Pick.there)).setObj (.deferred none)
    refine l_nil ?_
    refine r_two rfl (res1_cellN Try.isAgg45 Try.sizeOf45 rfl (hS.blk (by repeat first | exact .here _ _ | assumption | apply Pick.there)) rfl) (res1_cell1 Try.isAgg4 rfl (hS.cell (by repeat first | exact .here _ _ | assumption | apply Pick.there) rfl)) ?_
    first
      | (have e1 : telS bs = sn0 := by unfold telS; rw [htn]; rfl
         have e2 : (tel bs).isSome = false := by rw [htn]; rfl
         rw [e1, e2]
         first
           | exact ⟨none, 0, rfl, hS.nil.nilrow 5 1⟩
           | exact ⟨Ab, cb, rfl, (hS.pick (A := rowA 5 1 Ab _ cb _) (by repeat first | exact .here _ _ | assumption | apply Pick.there)).front1⟩)
      | (have e1 : telS bs = s := by unfold telS; rw [hts]; rfl
         have e2 : (tel bs).isSome = true := by rw [hts]; rfl
         rw [e1, e2]
         exact ⟨Ab, cb, rfl, (hS.pick (A := rowA 5 1 Ab _ cb _) (by repeat first | exact .here _ _ | assumption | apply Pick.there)).front1⟩)
  case done =>
    intro D1 xs w hx hS
    replace hS : St W w [blkA gE 25 [.slice A bs.length c], tlA bs g2 g4 g5 xs.length, blkA g3 4 [.bool false], objA D1 doneObj] := hS
    obtain ⟨hw, hne⟩ := hx
    obtain ⟨s, left, hI, hS⟩ := (hS.pick (A := tlA bs g2 g4 g5 xs.length) (by repeat first | exact .here _ _ | assumption | apply Pick.there)).tl
    obtain ⟨Ab, cb, hS⟩ := hS.sn
    refine m_of ?_
    refine c_seq ?_
    refine c_seq ?_
    refine c_region ?_
    refine t_q (q_load1 Try.isAgg4 rfl (hS.cell (by repeat first | exact .here _ _ | assumption | apply Pick.there) rfl)) ?_
    refine t_q (q_not rfl) ?_
    refine t_q (q_mv (.bool _) rfl) ?_
    refine t_case 59 rfl ?_ ?_
    · intro hg41
      refine t_no rfl rfl (by rw [(congrArg not (not_back hg41))]; decide) ?_
      refine t_no rfl rfl (by rw [(congrArg not (not_back hg41))]; decide) ?_
      refine t_q (q_pick_t rfl (congrArg not (not_back hg41))) ?_
      refine t_nil ?_
      refine c_cond_t rfl rfl ?_
      have htn : tel bs = none := by
        first
          | (exfalso; omega)
          | exact absurd ‹(!true) = true› (by decide)
          | (rcases Nat.eq_zero_or_pos xs.length with h0 | h0
             · rw [h0] at hne; exact tel_none hne
             · refine tl_bad hI h0 ?_ (fun hh => hne hh.1)
               intro hl
               first
                 | omega
                 | exact absurd h0 (of_decide_eq_false (not_back ‹(!decide (0 < xs.length)) = true›)))
      refine c_seq ?_
      refine c_region ?_
      refine t_q (q_build (qs := [(0, 1), (1, 1), (2, 1)]) [(.int _ _), (.int _ _), (.slice _ _ _)] Try.zeroValue45 Try.runUnderlying45 ⟨rfl, Try.sizeOf43, rfl, Try.sizeOf43, rfl, Try.sizeOf25, trivial⟩ rfl rfl) ?_
      refine t_store (v := (.agg _)) Try.sizeOf45 hS (by repeat first | exact .here _ _ | assumption | apply Pick.there) rfl rfl rfl rfl rfl rfl (fun w hS => ?_)
      refine t_store (v := (.bool _)) Try.sizeOf4 hS (by repeat first | exact .here _ _ | assumption | apply Pick.there) rfl rfl rfl rfl rfl rfl (fun w hS => ?_)
      refine t_nil ?_
      refine c_ret ?_
      refine l_mark (hS.obj (g := D1) (by repeat first | exact .here _ _ | assumption | apply Pick.there)) ?_
      replace hS := (hS.pick (A := objA D1 _) (by repeat first | exact .here _ _ | assumption | apply Pick.there)).setObj (.deferred none)
      refine l_nil ?_
      refine r_two rfl (res1_cellN Try.isAgg45 Try.sizeOf45 rfl (hS.blk (by repeat first | exact .here _ _ | assumption | apply Pick.there)) rfl) (res1_cell1 Try.isAgg4 rfl (hS.cell (by repeat first | exact .here _ _ | assumption | apply Pick.there) rfl)) ?_
      first
        | (have e1 : telS bs = sn0 := by unfold telS; rw [htn]; rfl
           have e2 : (tel bs).isSome = false := by rw [htn]; rfl
           rw [e1, e2]
           first
             | exact ⟨none, 0, rfl, hS.nil.nilrow 5 1⟩
             | exact ⟨Ab, cb, rfl, (hS.pick (A := rowA 5 1 Ab _ cb _) (by repeat first | exact .here _ _ | assumption | apply Pick.there)).front1⟩)
        | (have e1 : telS bs = s := by unfold telS; rw [hts]; rfl
           have e2 : (tel bs).isSome = true := by rw [hts]; rfl
           rw [e1, e2]
           exact ⟨Ab, cb, rfl, (hS.pick (A := rowA 5 1 Ab _ cb _) (by repeat first | exact .here _ _ | assumption | apply Pick.there)).front1⟩)
    · intro hg41
      refine t_yes rfl rfl (congrArg not (not_back hg41)) ?_
      refine t_q (q_load1 Try.isAgg3 rfl (hS.cell (by repeat first | exact .here _ _ | assumption | apply Pick.there) rfl)) ?_
      refine t_yes rfl rfl (congrArg not (not_back hg41)) ?_
      refine t_q (q_gtr rfl rfl) ?_
      refine t_q (q_pick_f rfl (congrArg not (not_back hg41))) ?_
      refine t_nil ?_
      refine c_cond rfl ?_ ?_
      · intro hc43
        have hc43d := of_decide_eq_true hc43
        have htn : tel bs = none := by
          first
            | (exfalso; omega)
            | exact absurd ‹(!true) = true› (by decide)
            | (rcases Nat.eq_zero_or_pos xs.length with h0 | h0
               · rw [h0] at hne; exact tel_none hne
               · refine tl_bad hI h0 ?_ (fun hh => hne hh.1)
                 intro hl
                 first
                   | omega
                   | exact absurd h0 (of_decide_eq_false (not_back ‹(!decide (0 < xs.length)) = true›)))
        refine c_seq ?_
        refine c_region ?_
        refine t_q (q_build (qs := [(0, 1), (1, 1), (2, 1)]) [(.int _ _), (.int _ _), (.slice _ _ _)] Try.zeroValue45 Try.runUnderlying45 ⟨rfl, Try.sizeOf43, rfl, Try.sizeOf43, rfl, Try.sizeOf25, trivial⟩ rfl rfl) ?_
        refine t_store (v := (.agg _)) Try.sizeOf45 hS (by repeat first | exact .here _ _ | assumption | apply Pick.there) rfl rfl rfl rfl rfl rfl (fun w hS => ?_)
        refine t_store (v := (.bool _)) Try.sizeOf4 hS (by repeat first | exact .here _ _ | assumption | apply Pick.there) rfl rfl rfl rfl rfl rfl (fun w hS => ?_)
        refine t_nil ?_
        refine c_ret ?_
        refine l_mark (hS.obj (g := D1) (by repeat first | exact .here _ _ | assumption | apply Pick.there)) ?_
        replace hS := (hS.pick (A := objA D1 _) (by repeat first | exact .here _ _ | assumption | apply Pick.there)).setObj (.deferred none)
        refine l_nil ?_
        refine r_two rfl (res1_cellN Try.isAgg45 Try.sizeOf45 rfl (hS.blk (by repeat first | exact .here _ _ | assumption | apply Pick.there)) rfl) (res1_cell1 Try.isAgg4 rfl (hS.cell (by repeat first | exact .here _ _ | assumption | apply Pick.there) rfl)) ?_
        first
          | (have e1 : telS bs = sn0 := by unfold telS; rw [htn]; rfl
             have e2 : (tel bs).isSome = false := by rw [htn]; rfl
             rw [e1, e2]
             first
               | exact ⟨none, 0, rfl, hS.nil.nilrow 5 1⟩
               | exact ⟨Ab, cb, rfl, (hS.pick (A := rowA 5 1 Ab _ cb _) (by repeat first | exact .here _ _ | assumption | apply Pick.there)).front1⟩)
          | (have e1 : telS bs = s := by unfold telS; rw [hts]; rfl
             have e2 : (tel bs).isSome = true := by rw [hts]; rfl
             rw [e1, e2]
             exact ⟨Ab, cb, rfl, (hS.pick (A := rowA 5 1 Ab _ cb _) (by repeat first | exact .here _ _ | assumption | apply Pick.there)).front1⟩)
      · intro hc43
        have hc43d := of_decide_eq_false hc43
        have hts : tel bs = some s := by
          first
            | exact hts0
            | (have h1 : left = 0 := by omega
               have h2 : 0 < xs.length := of_decide_eq_true (not_back ‹(!decide (0 < xs.length)) = false›)
               subst h1; exact tl_done hI h2)
        refine c_skip ?_
        refine c_seq ?_
        refine c_region ?_
        refine t_q (q_load_blk Try.isAgg45 Try.sizeOf45 rfl (hS.blk (by repeat first | exact .here _ _ | assumption | apply Pick.there)) rfl) ?_
        refine t_store (v := (.agg _)) Try.sizeOf45 hS (by repeat first | exact .here _ _ | assumption | apply Pick.there) rfl rfl rfl rfl rfl rfl (fun w hS => ?_)
        refine t_store (v := (.bool _)) Try.sizeOf4 hS (by repeat first | exact .here _ _ | assumption | apply Pick.there) rfl rfl rfl rfl rfl rfl (fun w hS => ?_)
        refine t_nil ?_
        refine c_ret ?_
        refine l_mark (hS.obj (g := D1) (by repeat first | exact .here _ _ | assumption | apply Pick.there)) ?_
        replace hS := (hS.pick (A := objA D1 _) (by repeat first | exact .here _ _ | assumption | apply Pick.there)).setObj (.deferred none)
        refine l_nil ?_
        refine r_two rfl (res1_cellN Try.isAgg45 Try.sizeOf45 rfl (hS.blk (by repeat first | exact .here _ _ | assumption | apply Pick.there)) rfl) (res1_cell1 Try.isAgg4 rfl (hS.cell (by repeat first | exact .here _ _ | assumption | apply Pick.there) rfl)) ?_
        first
          | (have e1 : telS bs = sn0 := by unfold telS; rw [htn]; rfl
             have e2 : (tel bs).isSome = false := by rw [htn]; rfl
             rw [e1, e2]
             first
               | exact ⟨none, 0, rfl, hS.nil.nilrow 5 1⟩
               | exact ⟨Ab, cb, rfl, (hS.pick (A := rowA 5 1 Ab _ cb _) (by repeat first | exact .here _ _ | assumption | apply Pick.there)).front1⟩)
          | (have e1 : telS bs = s := by unfold telS; rw [hts]; rfl
             have e2 : (tel bs).isSome = true := by rw [hts]; rfl
             rw [e1, e2]
             exact ⟨Ab, cb, rfl, (hS.pick (A := rowA 5 1 Ab _ cb _) (by repeat first | exact .here _ _ | assumption | apply Pick.there)).front1⟩)
end Go.Proofs.Ytlppgpidakfnlaa
