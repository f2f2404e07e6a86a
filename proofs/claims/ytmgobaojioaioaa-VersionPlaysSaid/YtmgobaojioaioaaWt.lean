/- Rule sets of a version. -/
import Derived.Test.YtmgobaojioaioaaWb
namespace Go.Proofs.Ytmgobaojioaioaa
open Go Go.RowKit Go.Lib
variable {W : World}
def bas (v : Int) (A : Option Addr) (c : Nat) (B : Option Addr) (d : Nat) : RuV := ⟨v, ⟨A, c, [⟨0, 5⟩]⟩, 10, 0, ⟨B, d, [⟨0, 100, 200⟩]⟩, 2, 1, 2, 1⟩
theorem bas_goodP {v : Int} {A : Option Addr} {c : Nat} {B : Option Addr} {d : Nat} : goodR (bas v A c B d) = decide (1 ≤ v ∧ v ≤ 32) := by
  have hi : goodR (bas v A c B d) = true ↔ (1 ≤ v ∧ v ≤ 32) := by
    rw [goodR_iff]
    refine ⟨fun h => h.1, fun h => ⟨h, ⟨by show (1 : Nat) ≤ 1; decide, by show (1 : Nat) ≤ 8; decide, rfl, fun i hi => ?_⟩, by show (1 : Int) ≤ 10 ∧ (10 : Int) ≤ _ ∧ (0 : Int) ≤ 0 ∧ (0 : Int) ≤ _; decide, ⟨by show (1 : Nat) ≤ 1; decide, by show (1 : Nat) ≤ 8; decide, rfl, fun i hi => ?_⟩, ⟨by show (1 : Int) ≤ 2 ∧ (2 : Int) ≤ 3; decide, by show (1 : Int) ≤ 1 ∧ (1 : Int) ≤ 2; decide, by show (1 : Int) ≤ 2 ∧ (2 : Int) ≤ 4; decide, by show (1 : Int) ≤ 1 ∧ (1 : Int) ≤ 2; decide⟩⟩⟩
    · have h0 : i = 0 := by have : i < 1 := hi; omega
      subst h0
      exact ⟨by show (1 : Int) ≤ 5; decide, by show (5 : Int) ≤ _; decide, by show (0 : Int) ≤ _; decide, fun h => absurd h (Nat.lt_irrefl 0)⟩
    · have h0 : i = 0 := by have : i < 1 := hi; omega
      subst h0
      exact ⟨by show (0 : Int) ≤ _; decide, by show (0 : Int) ≤ 100 ∧ (100 : Int) ≤ _; decide, by show (0 : Int) ≤ 200 ∧ (200 : Int) ≤ _; decide, fun h => absurd h (Nat.lt_irrefl 0)⟩
  by_cases h : 1 ≤ v ∧ v ≤ 32
  · rw [decide_eq_true h]; exact hi.2 h
  · rw [decide_eq_false h]
    cases hb : goodR (bas v A c B d) with
    | false => rfl
    | true => exact absurd (hi.1 hb) h
theorem bas_gd {w : World} {v : Int} {A : Option Addr} {c : Nat} {B : Option Addr} {d : Nat} (hv : -9223372036854775808 ≤ v ∧ v ≤ 9223372036854775807) (h1 : RdTk w A [⟨0, 5⟩]) (h2 : RdTr w B [⟨0, 100, 200⟩]) : (bas v A c B d).Gd w :=
  ⟨hv, by show (-9223372036854775808 : Int) ≤ 10 ∧ (10 : Int) ≤ _; decide, by show (-9223372036854775808 : Int) ≤ 0 ∧ (0 : Int) ≤ _; decide, by show (-9223372036854775808 : Int) ≤ 2 ∧ (2 : Int) ≤ _; decide, by show (-9223372036854775808 : Int) ≤ 1 ∧ (1 : Int) ≤ _; decide, by show (-9223372036854775808 : Int) ≤ 2 ∧ (2 : Int) ≤ _; decide, by show (-9223372036854775808 : Int) ≤ 1 ∧ (1 : Int) ≤ _; decide, h1, (fun e he => by rw [List.mem_singleton.1 he]; exact ⟨by decide, by decide⟩), by show (1 : Nat) ≤ _; decide, h2, (fun e he => by rw [List.mem_singleton.1 he]; exact ⟨by decide, by decide, by decide⟩), by show (1 : Nat) ≤ _; decide⟩
theorem RuBy.bas {v : Int} {A : Option Addr} {c : Nat} {B : Option Addr} {d : Nat} {ps : List RdP} (hv : -9223372036854775808 ≤ v ∧ v ≤ 9223372036854775807) (hs : ∀ p ∈ ruP (bas v A c B d), p ∈ ps) : RuBy W ps (bas v A c B d) := ⟨.inr fun _ _ _ _ hS pk =>
  bas_gd hv (hS.rds (p := ⟨2, A, 1, fun i => (([⟨0, 5⟩] : List Tk).getD i default).cells⟩) pk (hs _ (.head _))) (hS.rds (p := ⟨3, B, 1, fun i => (([⟨0, 100, 200⟩] : List Tr).getD i default).cells⟩) pk (hs _ (.tail _ (.head _))))⟩
attribute [local irreducible] blkA rowA rdsA mapA regA
set_option maxRecDepth 100000 in
theorem basic_calls : Calls Try.prog 76 #[] W fun e w' => ∃ A c B d, e = .returned (.agg (bas 1 A c B d).cells.toArray) ∧ St W w' [rowA 168 2 A 1 c [.int .i64 0, .int .i64 5], rowA 170 3 B 1 d [.int .i64 0, .int .i64 100, .int .i64 200]] := by
  have hS := St.init W
  refine calls_of_wpE (args := []) Try.func76 rfl rfl rfl ?_
  refine c_seq ?_
  refine c_region ?_
  refine t_alloc Try.zeroValue47 rfl hS (fun g0 w hS => ?_)
  refine t_nil ?_
  refine c_seq ?_
  refine c_region ?_
  refine t_q (q_build (qs := [(0, 1), (1, 1)]) [(.int _ _), (.int _ _)] Try.zeroValue168 Try.runUnderlying168 ⟨rfl, Try.sizeOf2, rfl, Try.sizeOf2, trivial⟩ rfl rfl) ?_
  refine t_buildSlice Try.runUnderlying44 Try.sizeOf168 Try.zeroValue168 rfl rfl (by intro v hv; simp at hv; try (first | (subst hv; rfl) | (rcases hv with rfl | rfl <;> rfl))) (by decide) (by decide) hS (fun g2 w hS => ?_)
  replace hS := hS.recast (show _ = rowA 168 2 (some ⟨g2, 0, none⟩) 1 1 [.int .i64 0, .int .i64 5] from rfl)
  refine t_q (q_build (qs := [(0, 1), (1, 1), (2, 1)]) [(.int _ _), (.int _ _), (.int _ _)] Try.zeroValue170 Try.runUnderlying170 ⟨rfl, Try.sizeOf2, rfl, Try.sizeOf2, rfl, Try.sizeOf2, trivial⟩ rfl rfl) ?_
  refine t_buildSlice Try.runUnderlying45 Try.sizeOf170 Try.zeroValue170 rfl rfl (by intro v hv; simp at hv; try (first | (subst hv; rfl) | (rcases hv with rfl | rfl <;> rfl))) (by decide) (by decide) hS (fun g4 w hS => ?_)
  replace hS := hS.recast (show _ = rowA 170 3 (some ⟨g4, 0, none⟩) 1 1 [.int .i64 0, .int .i64 100, .int .i64 200] from rfl)
  refine t_q (q_build (qs := [(0, 1), (1, 1), (2, 1), (3, 1), (4, 1), (5, 1), (6, 1), (7, 1), (8, 1)]) [(.int _ _), (.slice _ _ _), (.int _ _), (.int _ _), (.slice _ _ _), (.int _ _), (.int _ _), (.int _ _), (.int _ _)] Try.zeroValue47 Try.runUnderlying47 ⟨rfl, Try.sizeOf3, rfl, Try.sizeOf44, rfl, Try.sizeOf2, rfl, Try.sizeOf2, rfl, Try.sizeOf45, rfl, Try.sizeOf3, rfl, Try.sizeOf3, rfl, Try.sizeOf3, rfl, Try.sizeOf3, trivial⟩ rfl rfl) ?_
  refine t_store (v := (.agg _)) Try.sizeOf47 hS (by repeat first | exact .here _ _ | assumption | apply Pick.there) rfl rfl rfl rfl rfl rfl (fun w hS => ?_)
  replace hS := hS.recast (congrArg (blkA g0 47) (rset_full (vs := (bas 1 (some ⟨g2, 0, none⟩) 1 (some ⟨g4, 0, none⟩) 1).cells) rfl))
  refine t_nil ?_
  refine c_ret ?_
  refine r_one rfl (res1_cellN Try.isAgg47 Try.sizeOf47 rfl (hS.blk (by repeat first | exact .here _ _ | assumption | apply Pick.there)) rfl) ?_
  exact ⟨some ⟨g2, 0, none⟩, 1, some ⟨g4, 0, none⟩, 1, rfl, ((hS.pick (A := rowA 170 3 (some ⟨g4, 0, none⟩) 1 1 [.int .i64 0, .int .i64 100, .int .i64 200]) (by repeat first | exact .here _ _ | assumption | apply Pick.there)).pick (A := rowA 168 2 (some ⟨g2, 0, none⟩) 1 1 [.int .i64 0, .int .i64 5]) (by repeat first | exact .here _ _ | assumption | apply Pick.there)).front2⟩
end Go.Proofs.Ytmgobaojioaioaa
