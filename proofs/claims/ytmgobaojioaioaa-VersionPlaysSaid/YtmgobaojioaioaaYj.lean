/- Commands that are light. -/
import Derived.Test.YtmgobaojioaioaaVk
import Derived.Test.YtmgobaojioaioaaVa
namespace Go.Proofs.Ytmgobaojioaioaa
open Go Go.RowKit Go.Lib
variable {W : World}
def lightC (l : List CmdV) : Bool := decide ((∀ o ∈ l, lightR o.rules = true) ∧ l.length ≤ 60)
theorem lightC_no {l : List CmdV} {j : Nat} (hj : j < l.length) (h : lightR (l.getD j default).rules = false) : lightC l = false := decide_eq_false fun hh => by
  rw [hh.1 _ (getD_mem hj)] at h
  cases h
theorem lightC_all {l : List CmdV} (h : ∀ i, i < l.length → lightR (l.getD i default).rules = true) : lightC l = decide (l.length ≤ 60) := by
  unfold lightC
  rw [decide_eq_decide]
  refine ⟨fun h => h.2, fun h2 => ⟨fun o ho => ?_, h2⟩⟩
  obtain ⟨i, hi, rfl⟩ := List.mem_iff_getElem.1 ho
  have := h i hi
  rwa [List.getD_eq_getElem?_getD, List.getElem?_eq_getElem hi] at this
theorem lightC_len {l : List CmdV} (h : lightC l = true) : l.length ≤ 60 := (of_decide_eq_true h).2
theorem lightC_gd {l : List CmdV} {w : World} {j : Nat} (h : lightC l = true) (hk : ∀ o ∈ l, o.Ok w) (hj : j < l.length) : (l.getD j default).rules.Gd w := light_rgd (hk _ (getD_mem hj)).rules ((of_decide_eq_true h).1 _ (getD_mem hj))
attribute [local irreducible] blkA rowA
set_option maxRecDepth 100000 in
theorem vlight_calls {A0 : Option Addr} {c0 : Nat} {l : List CmdV} (hl : Rd W 22 A0 l.length (fun i => (l.getD i default).cells)) (hm : l.length ≤ 9223372036854775807) : Calls Try.prog 15 #[.slice A0 l.length c0] W fun e w' => e = .returned (.bool (lightC l)) ∧ St W w' [] := by
  have hS := St.init W
  refine calls_of_wpE (args := [_]) Try.func15 rfl rfl rfl ?_
  refine c_seq ?_
  refine c_region ?_
  refine t_q (q_assign) ?_
  refine t_nil ?_
  refine c_seq ?_
  refine c_seq ?_
  refine c_region ?_
  refine t_q (q_mv (.slice _ _ _) rfl) ?_
  refine t_q (q_len_slice Try.runUnderlying22 rfl) ?_
  refine t_q (q_move) ?_
  refine t_nil ?_
  refine c_block ?_
  refine c_loop [2, 4, 7, 8, 9, 10, 11, 12, 13, 14, 15] (fun k σ w => ∃ j : Nat, σ 7 = .int .i64 (j : Int) ∧ j ≤ l.length ∧ l.length - j ≤ k ∧ (∀ i, i < j → lightR (l.getD i default).rules = true) ∧ St W w []) (l.length) rfl (⟨0, rfl, by omega, by omega, (fun i h => absurd h (by omega)), hS⟩) ?_
  skip
  rintro k σ w ⟨j, h7, hj, hk, hall, hS⟩
  refine c_know 7 h7 ?_
  clear h7
  refine c_seq ?_
  refine c_region ?_
  refine t_q (q_lss rfl rfl) ?_
  refine t_nil ?_
  refine c_seq ?_
  refine c_cond rfl ?_ ?_
  · intro hc2
    have hc2d := of_decide_eq_true hc2
    refine c_skip ?_
    refine c_seq ?_
    refine c_block ?_
    refine c_seq ?_
    refine c_region ?_
    first | refine t_index_nat Try.runUnderlying22 Try.sizeOf49 (Rd.st hl hS) rfl rfl (by omega) (fun ad3 hl3 hx3 => ?_) | refine t_index Try.runUnderlying22 Try.sizeOf49 (Rd.st hl hS) rfl rfl (by omega) (fun ad3 hl3 hx3 => ?_)
    refine t_q (q_loadN Try.isAgg49 Try.sizeOf49 rfl hl3 hx3) ?_
    refine t_alloc Try.zeroValue49 rfl hS (fun g4 w hS => ?_)
    refine t_store (v := (.agg _)) Try.sizeOf49 hS (by repeat first | exact .here _ _ | assumption | apply Pick.there) rfl rfl rfl rfl rfl rfl (fun w hS => ?_)
    replace hS := hS.recast (congrArg (blkA g4 49) (setN_full (vs := (l.getD j default).cells) (cmd_len (l.getD j default)).symm))
    replace hS := hS.recast (show _ = blkA g4 49 [.int .i64 (l.getD j default).kind, .int .u64 (l.getD j default).client, .int .u64 (l.getD j default).req, .int .i64 (l.getD j default).account, .int .u64 (l.getD j default).id, .int .i64 (l.getD j default).side, .int .i64 (l.getD j default).typ, .int .i64 (l.getD j default).asset, .int .i64 (l.getD j default).price, .int .i64 (l.getD j default).qty, .int .i64 (l.getD j default).version, .int .i64 (l.getD j default).replica, .int .u64 (l.getD j default).at_, .int .i64 (l.getD j default).rules.version, .slice (l.getD j default).rules.ticks.A (l.getD j default).rules.ticks.l.length (l.getD j default).rules.ticks.c, .int .i64 (l.getD j default).rules.lot, .int .i64 (l.getD j default).rules.band, .slice (l.getD j default).rules.fees.A (l.getD j default).rules.fees.l.length (l.getD j default).rules.fees.c, .int .i64 (l.getD j default).rules.round, .int .i64 (l.getD j default).rules.priority, .int .i64 (l.getD j default).rules.self, .int .i64 (l.getD j default).rules.layout] from rfl)
    refine t_nil ?_
    refine c_seq ?_
    refine c_region ?_
    refine t_q (q_fieldAddr 13 Try.runUnderlying49 rfl Try.sizeOf47 (by decide) rfl rfl) ?_
    refine t_q (q_cast (v' := .agg (l.getD j default).rules.cells.toArray) (q_load_sub Try.isAgg47 Try.sizeOf47 rfl (hS.blk (by repeat first | exact .here _ _ | assumption | apply Pick.there)) (by show 0 + 13 + 9 ≤ 22; decide)) (by rfl)) ?_
    refine t_call Try.call41 (rlight_calls (x := (l.getD j default).rules)) rfl ?_
    rintro e w ⟨rfl, hT⟩
    refine ⟨_, rfl, ?_⟩
    replace hS := hS.after hT
    refine t_q (q_not rfl) ?_
    refine t_nil ?_
    refine c_cond rfl ?_ ?_
    · intro hc5
      have hD := lightC_no (l := l) (j := j) (by omega) (bnt (by assumption : (!lightR (l.getD j default).rules) = true))
      refine c_seq ?_
      refine c_region ?_
      refine t_q (q_assign) ?_
      refine t_nil ?_
      refine c_ret ?_
      refine r_one rfl rfl ?_
      rw [hD]
      refine ⟨congrArg (fun b => Ending.returned (.bool b)) ?_, hS.nil⟩
      first
        | rfl
        | (rw [decide_eq_decide]; omega)
    · intro hc5
      have hyes : lightR (l.getD j default).rules = true := bnf (by assumption : (!lightR (l.getD j default).rules) = false)
      refine c_skip ?_
      refine c_region ?_
      refine t_q (q_add_i64 rfl rfl (by omega)) ?_
      refine t_q (q_mv (.int _ _) rfl) ?_
      refine t_nil ?_
      exact ⟨k - 1, by omega, j + 1, rfl, by omega, by omega, (fun i hi => by
        rcases Nat.lt_or_ge i j with h | h
        · exact hall i h
        · obtain rfl : i = j := by omega
          exact hyes), hS.nil⟩
  · intro hc2
    have hc2d := of_decide_eq_false hc2
    have hD : lightC l = decide (l.length ≤ 60) := lightC_all fun i hi => hall i (by omega)
    refine c_exit ?_
    refine ite_t rfl ?_
    refine c_seq ?_
    refine c_region ?_
    refine t_q (q_mv (.slice _ _ _) rfl) ?_
    refine t_q (q_len_slice Try.runUnderlying22 rfl) ?_
    refine t_q (q_leq rfl rfl) ?_
    refine t_q (q_as (.bool _) rfl) ?_
    refine t_nil ?_
    refine c_ret ?_
    refine r_one rfl rfl ?_
    rw [hD]
    refine ⟨congrArg (fun b => Ending.returned (.bool b)) ?_, hS.nil⟩
    first
      | rfl
      | (rw [decide_eq_decide]; omega)
end Go.Proofs.Ytmgobaojioaioaa
