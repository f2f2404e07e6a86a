/- Ballots: what the laws use. -/
import Derived.Test.YtlppgpidakfnlaaBi
import Derived.Test.YtlppgpidakfnlaaBj
import Derived.Test.YtlppgpidakfnlaaOp
import Derived.Test.YtlppgpidakfnlaaCl
namespace Go.Proofs.Ytlppgpidakfnlaa
open Go Go.RowKit Go.Lib
variable {W : World}
structure BOp where
  kind : Int
  by_ : Int
  raw : Bool
  term : Int
  vote : Int
instance : Inhabited BOp := ⟨⟨0, 0, false, 0, 0⟩⟩
def BOp.cells (x : BOp) : List Value := [.int .i64 x.kind, .int .u64 x.by_, .bool x.raw, .int .u64 x.term, .int .i64 x.vote]
structure BOp.Ok (w : World) (x : BOp) : Prop where
  kind : -9223372036854775808 ≤ x.kind ∧ x.kind ≤ 9223372036854775807
  by_ : 0 ≤ x.by_ ∧ x.by_ < 18446744073709551616
  raw : True
  term : 0 ≤ x.term ∧ x.term < 18446744073709551616
  vote : -9223372036854775808 ≤ x.vote ∧ x.vote ≤ 9223372036854775807
set_option maxRecDepth 100000 in
theorem opn_BOp {H : Type} {enc : TypeId × Value → H} {w : World} : Opn enc Try.prog w 91 BOp.cells (BOp.Ok w) := fun _ _ _ h => by
  obtain ⟨parts, rfl, hl, hf⟩ := opn_parts Try.underlying91 (by kernel_rfl) (by kernel_rfl) h
  match parts, hl with
  | [p0, p1, p2, p3, p4], _ =>
    obtain ⟨f0, x0, h0⟩ := hf 0 _ rfl
    obtain ⟨a0, e0, k0⟩ := (opn_i64 Try.underlying3) _ _ _ h0
    replace e0 : p0 = _ := e0
    obtain ⟨f1, x1, h1⟩ := hf 1 _ rfl
    obtain ⟨a1, e1, k1⟩ := (opn_u64 Try.underlying43) _ _ _ h1
    replace e1 : p1 = _ := e1
    obtain ⟨f2, x2, h2⟩ := hf 2 _ rfl
    obtain ⟨a2, e2, k2⟩ := (opn_bool Try.underlying4) _ _ _ h2
    replace e2 : p2 = _ := e2
    obtain ⟨f3, x3, h3⟩ := hf 3 _ rfl
    obtain ⟨a3, e3, k3⟩ := (opn_u64 Try.underlying43) _ _ _ h3
    replace e3 : p3 = _ := e3
    obtain ⟨f4, x4, h4⟩ := hf 4 _ rfl
    obtain ⟨a4, e4, k4⟩ := (opn_i64 Try.underlying3) _ _ _ h4
    replace e4 : p4 = _ := e4
    subst e0 e1 e2 e3 e4
    exact ⟨⟨a0, a1, a2, a3, a4⟩, by simp [BOp.cells], ⟨k0, k1, k2, k3, k4⟩⟩
def RdBO (w : World) (A : Option Addr) (l : List BOp) : Prop := Rd w 5 A l.length (fun i => (l.getD i default).cells)
theorem RdBO.st {w : World} {Q : List Asn} {A : Option Addr} {l : List BOp} (h : RdBO W A l) (hS : St W w Q) : RdBO w A l := Rd.st h hS
def opTm (x : BOp) (now : Nat) : Nat := if x.raw = true then x.term.toNat else (now + x.by_.toNat % 3) % 18446744073709551616
theorem opTm_lt {x : BOp} (hx : x.Ok W) (now : Nat) : opTm x now < 18446744073709551616 := by
  have h1 := hx.term
  unfold opTm
  split <;> omega
theorem D0k : DGood D0 ∧ D0.gone = false ∧ D0.fuse < 0 ∧ D0.calls ≤ 0 := ⟨DGood.zero, rfl, by decide, by decide⟩
theorem bop_again {d : Dk} {n : Nat} {c : Int} {r : Rc} (h : BF d n c r) (hG : DGood d) (hg : d.gone = false) (hf : d.fuse < 0) (hn : n ≤ 30) : btl (d.F n).1 (d.F (n + 1)).1 = (r, decide (c = 1), 0) ∧ (if (btl (d.F n).1 (d.F (n + 1)).1).2.1 then (1 : Int) else 0) = c ∧ ∃ d2, tdJ d n 2 = d2 ∧ DGood d2 ∧ d2.gone = false ∧ d2.fuse = d.fuse ∧ d2.calls ≤ d.calls + 4 ∧ BF d2 n c r := by
  obtain ⟨h1, h2, h3, h4⟩ := tdJ_ok (n := n) hG hg hf 2
  refine ⟨h.opens, ?_, _, rfl, h1, h2, h3, by omega, h.tidied hG hg hf hn⟩
  rw [h.opens]
  rcases h.c2 with rfl | rfl <;> rfl
attribute [local irreducible] blkA rowA rdrA rdO dskA blA
set_option maxRecDepth 100000 in
theorem opterm_calls {V : World} {x : BOp} {now : Nat} (hx : x.Ok V) (hn : now < 18446744073709551616) : Calls Try.prog 48 #[.agg x.cells.toArray, .int .u64 (now : Int)] W fun e w' => e = .returned (.int .u64 (opTm x now : Int)) ∧ St W w' [] := by
  have h1 := hx.term
  have h3 := hx.by_
  have hS := St.init W
  refine calls_of_wpE (args := [_, _]) Try.func48 rfl rfl rfl ?_
  refine c_seq ?_
  refine c_region ?_
  refine t_box (v := (.agg _)) rfl rfl hS (fun g2 w hS => ?_)
  replace hS := hS.recast (show _ = blkA g2 91 [.int .i64 x.kind, .int .u64 x.by_, .bool x.raw, .int .u64 x.term, .int .i64 x.vote] from rfl)
  refine t_q (q_assign) ?_
  refine t_nil ?_
  refine c_seq ?_
  refine c_seq ?_
  refine c_region ?_
  refine t_q (q_fieldAddr 2 Try.runUnderlying91 rfl Try.sizeOf4 (by decide) rfl rfl) ?_
  refine t_q (q_load1 Try.isAgg4 rfl (hS.cell (by repeat first | exact .here _ _ | assumption | apply Pick.there) rfl)) ?_
  refine t_nil ?_
  refine c_cond rfl ?_ ?_
  · intro hc2
    have e1 : x.term = (opTm x now : Int) := by unfold opTm; rw [if_pos hc2]; omega
    refine c_seq ?_
    refine c_region ?_
    refine t_q (q_fieldAddr 3 Try.runUnderlying91 rfl Try.sizeOf43 (by decide) rfl rfl) ?_
    refine t_q (q_load1 Try.isAgg43 rfl (hS.cell (by repeat first | exact .here _ _ | assumption | apply Pick.there) rfl)) ?_
    refine t_q (q_as (.int _ _) rfl) ?_
    refine t_nil ?_
    refine c_ret ?_
    refine r_one rfl rfl ?_
    rw [← e1]
    exact ⟨rfl, hS.nil⟩
  · intro hc2
    have e1 : (((now : Int) + x.by_ % 3) % 18446744073709551616) = (opTm x now : Int) := by unfold opTm; rw [if_neg (by rw [show x.raw = false from hc2]; decide)]; omega
    refine c_skip ?_
    refine c_seq ?_
    refine c_region ?_
    refine t_q (q_mv (.int _ _) rfl) ?_
    refine t_q (q_fieldAddr 1 Try.runUnderlying91 rfl Try.sizeOf43 (by decide) rfl rfl) ?_
    refine t_q (q_load1 Try.isAgg43 rfl (hS.cell (by repeat first | exact .here _ _ | assumption | apply Pick.there) rfl)) ?_
    refine t_q (q_rem_n rfl rfl (by omega) (by omega)) ?_
    refine t_q (q_addm_u64 rfl rfl) ?_
    refine t_q (q_as (.int _ _) rfl) ?_
    refine t_nil ?_
    refine c_ret ?_
    refine r_one rfl rfl ?_
    rw [← e1]
    exact ⟨rfl, hS.nil⟩
theorem blv : ∃ d1, tdJ D0 0 2 = d1 ∧ ∃ c2 d2, bsR d1 (⟨((0 : Nat) : Int), 0, 64, (0, 0), false⟩ : Bl) 3 (-1) = (0, (⟨((0 : Nat) : Int), c2, 64, (3, 0), false⟩ : Bl), d2) ∧ ∃ c3 d3, bsR d2 (⟨((0 : Nat) : Int), c2, 64, (3, 0), false⟩ : Bl) 3 1 = (0, (⟨((0 : Nat) : Int), c3, 64, (3, 2), false⟩ : Bl), d3) ∧ bsR d3 (⟨((0 : Nat) : Int), c3, 64, (3, 2), false⟩ : Bl) 3 2 = (55, (⟨((0 : Nat) : Int), c3, 64, (3, 2), false⟩ : Bl), d3) ∧ bsR d3 (⟨((0 : Nat) : Int), c3, 64, (3, 2), false⟩ : Bl) 2 0 = (55, (⟨((0 : Nat) : Int), c3, 64, (3, 2), false⟩ : Bl), d3) ∧ DGood d1 ∧ DGood d2 ∧ DGood d3 ∧ d1.calls ≤ 100 ∧ d2.calls ≤ 100 ∧ d3.calls ≤ 100 ∧ (c2 = 0 ∨ c2 = 1) ∧ (c3 = 0 ∨ c3 = 1) := by
  obtain ⟨_, _, d1, e1, hG1, hg1, hf1, hc1, hF1⟩ := bop_again (BF.zero (n := 0)) D0k.1 D0k.2.1 D0k.2.2.1 (by decide)
  have hd0 := D0k.2.2
  rcases hF1.save (ea := 64) (t := 3) (v := -1) hG1 hg1 (by decide) (by decide) (by decide) (by decide) (by decide) with ⟨c2, d2, e2, hG2, hg2, hs2, hc2, hF2⟩ | ⟨hh, _⟩
  · rcases hF2.save (ea := 64) (t := 3) (v := 1) hG2 hg2 (by decide) (by decide) (by decide) (by decide) (by decide) with ⟨c3, d3, e3, hG3, hg3, hs3, hc3, hF3⟩ | ⟨hh, _⟩
    · exact ⟨d1, e1, c2, d2, e2, c3, d3, e3, bsR_4 rfl (by decide) (show ¬ bsX 3 2 = ((3, 2) : Rc) by decide) (show ¬ abv (bsX 3 2) (3, 2) by decide), bsR_4 rfl (by decide) (show ¬ bsX 2 0 = ((3, 2) : Rc) by decide) (show ¬ abv (bsX 2 0) (3, 2) by decide), hG1, hG2, hG3, by omega, by omega, by omega, hF2.c2, hF3.c2⟩
    · have := hs2.1 (by omega); omega
  · omega
set_option maxHeartbeats 1000000 in
set_option maxRecDepth 100000 in
theorem blives_calls : Calls Try.prog 46 #[] W fun e w' => e = .returned (.bool true) ∧ St W w' [] := by
  obtain ⟨d1, e1, c2, d2, e2, c3, d3, e3, e4, e5, hG1, hG2, hG3, hc1, hc2, hc3, q2, q3⟩ := blv
  have hS := St.init W
  refine calls_of_wpE (args := []) Try.func46 rfl rfl rfl ?_
  refine c_seq ?_
  refine c_region ?_
  refine t_q (q_assign) ?_
  refine t_nil ?_
  refine c_seq ?_
  refine c_region ?_
  refine t_call Try.call32 (dnew_calls hS) rfl ?_
  rintro e w ⟨gd, rfl, hS⟩
  refine ⟨_, rfl, ?_⟩
  refine t_call Try.call47 (bopen_calls (d := D0) (n := 0) (ea := 64) hS (by decide) (by decide) D0k.1 D0k.2.1 D0k.2.2.1 (by decide) (by rw [(BF.zero (n := 0)).opens])) rfl ?_
  rintro e w ⟨g8, rfl, hS⟩
  refine ⟨_, rfl, ?_⟩
  rw [e1] at hS
  replace hS := (hS.pick (A := blA g8 gd _) (by repeat first | exact .here _ _ | assumption | apply Pick.there)).recast (show _ = blA g8 gd (⟨((0 : Nat) : Int), 0, 64, (0, 0), false⟩ : Bl) from by rw [(BF.zero (n := 0)).opens]; rfl)
  refine t_q (q_mv (.tuple _) rfl) ?_
  refine t_q (q_extract rfl rfl) ?_
  refine t_q (q_extract rfl rfl) ?_
  refine t_q (q_as (.pointer _) rfl) ?_
  refine t_q (q_as (.int _ _) rfl) ?_
  refine t_nil ?_
  refine c_seq ?_
  refine c_region ?_
  refine t_q (q_mv (.pointer _) rfl) ?_
  refine t_call Try.call49 (bsave_calls (b := (⟨((0 : Nat) : Int), 0, 64, (0, 0), false⟩ : Bl)) (d := d1) (t := 3) (v := -1) (((hS.pick (A := dskA gd _) (by repeat first | exact .here _ _ | assumption | apply Pick.there)).pick (A := blA g8 gd _) (by repeat first | exact .here _ _ | assumption | apply Pick.there))) (.inl rfl) (by decide) (by decide) (show recOk (0, 0) from ⟨by decide, by decide⟩) hG1 (by omega) (show (0 : Int) ≤ ((0 : Nat) : Int) ∧ ((0 : Nat) : Int) ≤ 30 by decide)) rfl ?_
  rintro e w ⟨rfl, hS⟩
  refine ⟨_, rfl, ?_⟩
  rw [e2] at hS
  rw [e2]
  refine t_q (q_mv (.pointer _) rfl) ?_
  refine t_call Try.call49 (bsave_calls (b := (⟨((0 : Nat) : Int), c2, 64, (3, 0), false⟩ : Bl)) (d := d2) (t := 3) (v := 1) (((hS.pick (A := dskA gd _) (by repeat first | exact .here _ _ | assumption | apply Pick.there)).pick (A := blA g8 gd _) (by repeat first | exact .here _ _ | assumption | apply Pick.there))) q2 (by decide) (by decide) (show recOk (3, 0) from ⟨by decide, by decide⟩) hG2 (by omega) (show (0 : Int) ≤ ((0 : Nat) : Int) ∧ ((0 : Nat) : Int) ≤ 30 by decide)) rfl ?_
  rintro e w ⟨rfl, hS⟩
  refine ⟨_, rfl, ?_⟩
  rw [e3] at hS
  rw [e3]
  refine t_q (q_mv (.pointer _) rfl) ?_
  refine t_call Try.call49 (bsave_calls (b := (⟨((0 : Nat) : Int), c3, 64, (3, 2), false⟩ : Bl)) (d := d3) (t := 3) (v := 2) (((hS.pick (A := dskA gd _) (by repeat first | exact .here _ _ | assumption | apply Pick.there)).pick (A := blA g8 gd _) (by repeat first | exact .here _ _ | assumption | apply Pick.there))) q3 (by decide) (by decide) (show recOk (3, 2) from ⟨by decide, by decide⟩) hG3 (by omega) (show (0 : Int) ≤ ((0 : Nat) : Int) ∧ ((0 : Nat) : Int) ≤ 30 by decide)) rfl ?_
  rintro e w ⟨rfl, hS⟩
  refine ⟨_, rfl, ?_⟩
  rw [e4] at hS
  rw [e4]
  refine t_q (q_mv (.pointer _) rfl) ?_
  refine t_call Try.call49 (bsave_calls (b := (⟨((0 : Nat) : Int), c3, 64, (3, 2), false⟩ : Bl)) (d := d3) (t := 2) (v := 0) (((hS.pick (A := dskA gd _) (by repeat first | exact .here _ _ | assumption | apply Pick.there)).pick (A := blA g8 gd _) (by repeat first | exact .here _ _ | assumption | apply Pick.there))) q3 (by decide) (by decide) (show recOk (3, 2) from ⟨by decide, by decide⟩) hG3 (by omega) (show (0 : Int) ≤ ((0 : Nat) : Int) ∧ ((0 : Nat) : Int) ≤ 30 by decide)) rfl ?_
  rintro e w ⟨rfl, hS⟩
  refine ⟨_, rfl, ?_⟩
  rw [e5] at hS
  rw [e5]
  refine t_q (q_as (.int _ _) rfl) ?_
  refine t_q (q_as (.int _ _) rfl) ?_
  refine t_q (q_as (.int _ _) rfl) ?_
  refine t_q (q_as (.int _ _) rfl) ?_
  refine t_nil ?_
  refine c_seq ?_
  refine c_region ?_
  refine t_q (q_mv (.int _ _) rfl) ?_
  refine t_q (q_cast (v' := .bool true) (q_eql rfl rfl) (by rfl)) ?_
  refine t_q (q_mv (.bool _) rfl) ?_
  refine t_yes rfl rfl rfl ?_
  refine t_q (q_mv (.int _ _) rfl) ?_
  refine t_yes rfl rfl rfl ?_
  refine t_q (q_cast (v' := .bool true) (q_eql rfl rfl) (by rfl)) ?_
  refine t_q (q_pick_t rfl rfl) ?_
  refine t_q (q_mv (.bool _) rfl) ?_
  refine t_yes rfl rfl rfl ?_
  refine t_q (q_mv (.int _ _) rfl) ?_
  refine t_yes rfl rfl rfl ?_
  refine t_q (q_cast (v' := .bool true) (q_eql rfl rfl) (by rfl)) ?_
  refine t_q (q_pick_t rfl rfl) ?_
  refine t_q (q_mv (.bool _) rfl) ?_
  refine t_yes rfl rfl rfl ?_
  refine t_q (q_mv (.int _ _) rfl) ?_
  refine t_yes rfl rfl rfl ?_
  refine t_q (q_cast (v' := .bool true) (q_eql rfl rfl) (by rfl)) ?_
  refine t_q (q_pick_t rfl rfl) ?_
  refine t_q (q_mv (.bool _) rfl) ?_
  refine t_yes rfl rfl rfl ?_
  refine t_q (q_mv (.int _ _) rfl) ?_
  refine t_yes rfl rfl rfl ?_
  refine t_q (q_cast (v' := .bool true) (q_eql rfl rfl) (by rfl)) ?_
  refine t_q (q_pick_t rfl rfl) ?_
  refine t_q (q_mv (.bool _) rfl) ?_
  refine t_yes rfl rfl rfl ?_
  refine t_q (q_mv (.pointer _) rfl) ?_
  refine t_yes rfl rfl rfl ?_
  refine t_call Try.call53 (bterm_calls hS (by repeat first | exact .here _ _ | assumption | apply Pick.there)) rfl ?_
  rintro e w ⟨rfl, hS⟩
  refine ⟨_, rfl, ?_⟩
  refine t_yes rfl rfl rfl ?_
  refine t_q (q_cast (v' := .bool true) (q_eql rfl rfl) (by rfl)) ?_
  refine t_q (q_pick_t rfl rfl) ?_
  refine t_q (q_mv (.bool _) rfl) ?_
  refine t_yes rfl rfl rfl ?_
  refine t_q (q_mv (.pointer _) rfl) ?_
  refine t_yes rfl rfl rfl ?_
  refine t_call Try.call54 (bvote_calls (b := (⟨((0 : Nat) : Int), c3, 64, (3, 2), false⟩ : Bl)) (show (2 : Nat) ≤ 7 by decide) hS (by repeat first | exact .here _ _ | assumption | apply Pick.there)) rfl ?_
  rintro e w ⟨rfl, hS⟩
  refine ⟨_, rfl, ?_⟩
  refine t_yes rfl rfl rfl ?_
  refine t_q (q_cast (v' := .bool true) (q_eql rfl rfl) (by rfl)) ?_
  refine t_q (q_pick_t rfl rfl) ?_
  refine t_q (q_as (.bool _) rfl) ?_
  refine t_nil ?_
  refine c_ret ?_
  refine r_one rfl rfl ?_
  exact ⟨rfl, hS.nil⟩
end Go.Proofs.Ytlppgpidakfnlaa
