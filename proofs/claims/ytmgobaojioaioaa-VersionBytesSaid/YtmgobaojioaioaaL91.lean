/- Any state has the document's bytes, and is read as it was; any bytes are read as the document says: the walk. -/
import Derived.Test.YtmgobaojioaioaaYi
import Derived.Test.YtmgobaojioaioaaYg
import Derived.Test.YtmgobaojioaioaaCl
namespace Go.Proofs.Ytmgobaojioaioaa
open Go Go.RowKit Go.Lib
variable {W : World}
attribute [local irreducible] blkA rowA rdsA mapA regA wrA rdrA rdO v0 v1 v2 v3 v4
set_option maxHeartbeats 2000000 in
set_option maxRecDepth 100000 in
theorem VersionBytes_calls {x : StV} (hx : x.In) {A : Option Addr} {c : Nat} {bs : List UInt8} (hR : RdB W A bs) (hc : bs.length ≤ c ∧ bs.length ≤ 9223372036854775807) : Calls Try.prog 6 #[.agg x.cells.toArray, .slice A bs.length c] W fun e w' => e = .returned (.bool true) ∧ St W w' [] := by
  have hS := St.init W
  have hsl := stB_len hx
  obtain ⟨bk1, bk2⟩ := sv_back hx
  refine calls_of_wpE (args := [_, _]) Try.func6 rfl rfl rfl ?_
  refine c_seq ?_
  refine c_region ?_
  refine t_box (v := (.agg _)) rfl rfl hS (fun g2 w hS => ?_)
  replace hS := hS.recast (show _ = blkA g2 28 [.int .i64 x.active, .int .i64 x.previous, .int .i64 x.pending, .int .u64 x.at_, .int .i64 x.shadow] from rfl)
  refine t_q (q_assign) ?_
  refine t_nil ?_
  refine c_seq ?_
  refine c_seq ?_
  refine c_region ?_
  refine t_q (q_mv (.slice _ _ _) rfl) ?_
  refine t_q (q_len_slice Try.runUnderlying74 rfl) ?_
  refine t_q (q_gtr rfl rfl) ?_
  refine t_nil ?_
  refine c_cond rfl ?_ ?_
  · intro hc2
    have hc2d := of_decide_eq_true hc2
    refine c_seq ?_
    refine c_region ?_
    refine t_call Try.call16 (vlives_calls) rfl ?_
    rintro e w ⟨rfl, hT⟩
    refine ⟨_, rfl, ?_⟩
    replace hS := hS.after hT
    refine t_q (q_as (.bool _) rfl) ?_
    refine t_nil ?_
    refine c_ret ?_
    refine r_one rfl rfl ?_
    exact ⟨rfl, hS.nil⟩
  · intro hc2
    have hc2d := of_decide_eq_false hc2
    refine c_skip ?_
    refine c_seq ?_
    refine c_region ?_
    refine t_alloc Try.zeroValue76 rfl hS (fun g5 w hS => ?_)
    replace hS := hS.wr0
    refine t_nil ?_
    refine c_seq ?_
    refine c_region ?_
    refine t_q (q_cast (v' := .agg x.cells.toArray) (q_load_blk Try.isAgg28 Try.sizeOf28 rfl (hS.blk (by repeat first | exact .here _ _ | assumption | apply Pick.there)) rfl) (by rfl)) ?_
    refine t_call Try.call32 (vput_calls (bs := []) hS (by repeat first | exact .here _ _ | assumption | apply Pick.there) hx (by simp)) rfl ?_
    rintro e w ⟨rfl, hS⟩
    refine ⟨_, rfl, ?_⟩
    replace hS := hS.recast (congrArg (wrA g5) (List.nil_append (stB x)))
    refine t_nil ?_
    refine c_seq ?_
    refine c_region ?_
    refine t_call Try.call34 (Bytes_calls hS (by repeat first | exact .here _ _ | assumption | apply Pick.there) (by omega)) rfl ?_
    rintro e w ⟨A14, c14, rfl, hc14, hS⟩
    refine ⟨_, rfl, ?_⟩
    refine t_call Try.call33 (oOpen (A := A14) (n := (stB x).length) (c := c14) hS) rfl ?_
    rintro e w ⟨gR, rfl, hS⟩
    refine ⟨_, rfl, ?_⟩
    replace hS := St.unrdo (V := W) (K := rowA 5 1 A14 (stB x).length c14 ((stB x).map bv)) (s := (⟨stB x, false⟩ : Rs)) hS rfl rfl (fun w' h => h.rowRd (A := A14) (c := c14) (bs := stB x) (.here _ _) rfl) ⟨hc14, by show (stB x).length ≤ _; omega⟩
    refine t_q (q_as (.pointer _) rfl) ?_
    refine t_nil ?_
    refine c_seq ?_
    refine c_seq ?_
    refine c_draw ?_
    refine d_keep (blkA g2 28 [.int .i64 x.active, .int .i64 x.previous, .int .i64 x.pending, .int .u64 x.at_, .int .i64 x.shadow]) 17 [0, 1, 2, 3, 4, 5, 6, 7, 8, 9, 10, 11, 12, 13, 14, 15, 16] [0, 1, 2, 3, 4, 5, 6, 7, 8, 9, 10, 11, 12, 13, 14, 15, 16] hS rfl (by kernel_rfl) (by kernel_rfl) (by kernel_rfl) (by kernel_rfl) (fun hap hsel w hS => ?_)
    refine p_q hap hsel 2 rfl rfl ⟨_, hS.pick (by repeat first | exact .here _ _ | assumption | apply Pick.there)⟩ (fun w hI => (q_cast (v' := .agg x.cells.toArray) (q_load_blk Try.isAgg28 Try.sizeOf28 rfl (hI.choose_spec.blk (by repeat first | exact .here _ _ | assumption | apply Pick.there)) rfl) (by rfl))) ?_
    refine p_one 0 rfl (by kernel_rfl) ?_
    refine t_call Try.call34 (Bytes_calls hS (by repeat first | exact .here _ _ | assumption | apply Pick.there) (by omega)) rfl ?_
    rintro e w ⟨A16, c16, rfl, hc16, hS⟩
    refine ⟨_, rfl, ?_⟩
    refine t_nil ?_
    refine ⟨.inr ⟨_, hS.pick (by repeat first | exact .here _ _ | assumption | apply Pick.there)⟩, ?_⟩
    refine p_two 1 3 rfl rfl (by kernel_rfl) ?_ ?_
    ·
      refine t_q (q_string Try.runUnderlying74 Try.runUnderlying5 Try.runUnderlying9 rfl rfl (hS.rowRd (A := A16) (c := c16) (bs := stB x) (by repeat first | exact .here _ _ | assumption | apply Pick.there) rfl)) ?_
      refine t_nil ?_
      refine ⟨.inr ⟨_, hS.pick (by repeat first | exact .here _ _ | assumption | apply Pick.there)⟩, ?_⟩
      refine p_one 3 rfl (by kernel_rfl) ?_
      refine t_call Try.call35 (qvput_calls hx) rfl ?_
      rintro e w ⟨A19, m19, c19, rfl, hm19, hT⟩
      refine ⟨_, rfl, ?_⟩
      have hS : St W w (_ :: _) := hS.lift hT
      refine t_nil ?_
      refine ⟨.inr ⟨_, hS.pick (by repeat first | exact .here _ _ | assumption | apply Pick.there)⟩, ?_⟩
      refine p_one 4 rfl (by kernel_rfl) ?_
      refine t_q (q_string Try.runUnderlying74 Try.runUnderlying5 Try.runUnderlying9 rfl hm19 (hS.rowRd (A := A19) (n := m19) (c := c19) (bs := stB x) (by repeat first | exact .here _ _ | assumption | apply Pick.there) hm19)) ?_
      refine t_nil ?_
      refine ⟨.inr ⟨_, hS.pick (by repeat first | exact .here _ _ | assumption | apply Pick.there)⟩, ?_⟩
      refine p_q hap hsel 5 rfl rfl ⟨_, hS.pick (by repeat first | exact .here _ _ | assumption | apply Pick.there)⟩ (fun w hI => (q_cast (v' := .bool false) (q_neq_string rfl rfl) (by simp))) ?_
      refine p_q hap hsel 6 rfl rfl ⟨_, hS.pick (by repeat first | exact .here _ _ | assumption | apply Pick.there)⟩ (fun w hI => q_mv (.bool _) rfl) ?_
      refine p_yes hap hsel 7 rfl rfl ⟨_, hS.pick (by repeat first | exact .here _ _ | assumption | apply Pick.there)⟩ rfl rfl rfl (fun w hI => q_mv (.pointer _) rfl) ?_
      refine p_yes hap hsel 9 rfl rfl ⟨_, hS.pick (by repeat first | exact .here _ _ | assumption | apply Pick.there)⟩ rfl rfl rfl (fun w hI => (q_cast (v' := .agg x.cells.toArray) (q_load_blk Try.isAgg28 Try.sizeOf28 rfl (hI.choose_spec.blk (by repeat first | exact .here _ _ | assumption | apply Pick.there)) rfl) (by rfl))) ?_
      refine p_one 8 rfl (by kernel_rfl) ?_
      refine t_yes rfl rfl rfl ?_
      refine t_call Try.call36 (vreado (s := (⟨stB x, false⟩ : Rs)) (K := rowA 5 1 A14 (stB x).length c14 ((stB x).map bv)) ((hS.pick (A := rowA 5 1 A14 (stB x).length c14 ((stB x).map bv)) (by repeat first | exact .here _ _ | assumption | apply Pick.there)).pick (A := rdO W (rowA 5 1 A14 (stB x).length c14 ((stB x).map bv)) 149 gR _) (by repeat first | exact .here _ _ | assumption | apply Pick.there))) rfl ?_
      rintro e w ⟨rfl, hS⟩
      refine ⟨_, rfl, ?_⟩
      rw [bk1]
      rw [bk2] at hS
      refine t_nil ?_
      refine ⟨.inr ⟨_, hS.pick (by repeat first | exact .here _ _ | assumption | apply Pick.there)⟩, ?_⟩
      refine p_yes hap hsel 10 rfl rfl ⟨_, hS.pick (by repeat first | exact .here _ _ | assumption | apply Pick.there)⟩ rfl rfl rfl (fun w hI => q_cast (v' := .bool false) (q_neq_sv (e := x) (q := x) rfl rfl hx.rg hx.rg) (by simp)) ?_
      refine p_q hap hsel 11 rfl rfl ⟨_, hS.pick (by repeat first | exact .here _ _ | assumption | apply Pick.there)⟩ (fun w hI => q_pick_f rfl rfl) ?_
      refine p_q hap hsel 12 rfl rfl ⟨_, hS.pick (by repeat first | exact .here _ _ | assumption | apply Pick.there)⟩ (fun w hI => q_mv (.bool _) rfl) ?_
      refine p_yes hap hsel 13 rfl rfl ⟨_, hS.pick (by repeat first | exact .here _ _ | assumption | apply Pick.there)⟩ rfl rfl rfl (fun w hI => q_mv (.pointer _) rfl) ?_
      refine p_one 14 rfl (by kernel_rfl) ?_
      refine t_yes rfl rfl rfl ?_
      refine t_call Try.call37 (oEnd hS (by repeat first | exact .here _ _ | assumption | apply Pick.there)) rfl ?_
      rintro e w ⟨rfl, hS⟩
      refine ⟨_, rfl, ?_⟩
      refine t_nil ?_
      refine ⟨.inr ⟨_, hS.pick (by repeat first | exact .here _ _ | assumption | apply Pick.there)⟩, ?_⟩
      refine p_yes hap hsel 15 rfl rfl ⟨_, hS.pick (by repeat first | exact .here _ _ | assumption | apply Pick.there)⟩ rfl rfl rfl (fun w hI => (q_cast (v' := .bool false) (q_neq rfl rfl) (by rfl))) ?_
      refine p_q hap hsel 16 rfl rfl ⟨_, hS.pick (by repeat first | exact .here _ _ | assumption | apply Pick.there)⟩ (fun w hI => q_pick_f rfl rfl) ?_
      refine p_end (by kernel_rfl) ?_
      refine c_cond_f rfl rfl ?_
      refine c_skip ?_
      refine c_seq ?_
      refine c_region ?_
      refine t_q (q_mv (.slice _ _ _) rfl) ?_
      refine t_call Try.call33 (Open_calls hS hR hc) rfl ?_
      rintro e w ⟨g34, rfl, hS⟩
      refine ⟨_, rfl, ?_⟩
      refine t_q (q_as (.pointer _) rfl) ?_
      refine t_nil ?_
      refine c_seq ?_
      refine c_region ?_
      refine t_q (q_mv (.slice _ _ _) rfl) ?_
      refine t_q (q_build (qs := [(0, 1), (1, 1)]) [(.slice _ _ _), (.bool _)] Try.zeroValue87 Try.runUnderlying87 ⟨rfl, Try.sizeOf74, rfl, Try.sizeOf4, trivial⟩ rfl rfl) ?_
      refine t_box (v := (.agg _)) rfl rfl hS (fun g37 w hS => ?_)
      replace hS := hS.recast (show _ = blkA g37 87 [.slice A bs.length c, .bool false] from rfl)
      replace hS := hS.unrdr (s := (⟨bs, false⟩ : Rs)) rfl rfl hR hc
      refine t_q (q_as (.pointer _) rfl) ?_
      refine t_nil ?_
      refine c_seq ?_
      refine c_draw ?_
      refine d_free 28 [0, 1, 2, 3, 4, 5, 6, 7, 8, 9, 10, 11, 12, 13, 14, 15, 16, 17, 18, 19, 20, 21, 22, 23, 24, 25, 26, 27] [0, 1, 2, 3, 4, 5, 6, 7, 8, 9, 10, 11, 12, 13, 14, 15, 16, 17, 18, 19, 20, 21, 22, 23, 24, 25, 26, 27] hS rfl (by kernel_rfl) (by kernel_rfl) (by kernel_rfl) (by kernel_rfl) (fun hap hsel w hS => ?_)
      refine p_q hap hsel 0 rfl rfl ⟨_, hS⟩ (fun w hI => q_mv (.pointer _) rfl) ?_
      refine p_q hap hsel 2 rfl rfl ⟨_, hS⟩ (fun w hI => q_mv (.pointer _) rfl) ?_
      refine p_one 1 rfl (by kernel_rfl) ?_
      refine t_call Try.call36 (vreadr (s := (⟨bs, false⟩ : Rs)) (hS.pick (A := rdrA W 149 g34 _) (by repeat first | exact .here _ _ | assumption | apply Pick.there))) rfl ?_
      rintro e w ⟨rfl, hS⟩
      refine ⟨_, rfl, ?_⟩
      refine t_nil ?_
      refine ⟨.inr ⟨_, hS⟩, ?_⟩
      refine p_one 3 rfl (by kernel_rfl) ?_
      refine t_call Try.call38 (qvread (s := (⟨bs, false⟩ : Rs)) hS (by repeat first | exact .here _ _ | assumption | apply Pick.there)) rfl ?_
      rintro e w ⟨rfl, hS⟩
      refine ⟨_, rfl, ?_⟩
      obtain ⟨A1, c1, hR1, hc1, hS⟩ := (hS.pick (A := rdrA W 87 g37 _) (by repeat first | exact .here _ _ | assumption | apply Pick.there)).rdr
      refine t_nil ?_
      refine ⟨.inr ⟨_, hS⟩, ?_⟩
      refine p_q hap hsel 4 rfl rfl ⟨_, hS⟩ (fun w hI => q_cast (v' := .bool true) (q_eql_qsv (e := vrd (⟨bs, false⟩ : Rs)) (q := vrd (⟨bs, false⟩ : Rs)) rfl rfl (vrd_in (⟨bs, false⟩ : Rs)).rg (vrd_in (⟨bs, false⟩ : Rs)).rg) (by simp)) ?_
      refine p_q hap hsel 5 rfl rfl ⟨_, hS⟩ (fun w hI => q_mv (.bool _) rfl) ?_
      refine p_yes hap hsel 6 rfl rfl ⟨_, hS⟩ rfl rfl rfl (fun w hI => q_mv (.pointer _) rfl) ?_
      refine p_yes hap hsel 8 rfl rfl ⟨_, hS⟩ rfl rfl rfl (fun w hI => q_mv (.pointer _) rfl) ?_
      refine p_yes hap hsel 9 rfl rfl ⟨_, hS⟩ rfl rfl rfl (fun w hI => q_nilCheck rfl) ?_
      refine p_yes hap hsel 10 rfl rfl ⟨_, hS⟩ rfl rfl rfl (fun w hI => q_fieldAddr 0 Try.runUnderlying87 rfl Try.sizeOf74 (by decide) rfl rfl) ?_
      refine p_two 7 11 rfl rfl (by kernel_rfl) ?_ ?_
      ·
        refine t_yes rfl rfl rfl ?_
        refine t_call Try.call39 (rLeft hS (by repeat first | exact .here _ _ | assumption | apply Pick.there)) rfl ?_
        rintro e w ⟨rfl, hS⟩
        refine ⟨_, rfl, ?_⟩
        refine t_nil ?_
        refine ⟨.inr ⟨_, hS⟩, ?_⟩
        refine p_one 11 rfl (by kernel_rfl) ?_
        refine t_yes rfl rfl rfl ?_
        refine t_q (q_load1 Try.isAgg74 rfl (hS.cell (by repeat first | exact .here _ _ | assumption | apply Pick.there) rfl)) ?_
        refine t_nil ?_
        refine ⟨.inr ⟨_, hS⟩, ?_⟩
        refine p_yes hap hsel 12 rfl rfl ⟨_, hS⟩ rfl rfl rfl (fun w hI => q_len_slice Try.runUnderlying74 rfl) ?_
        refine p_yes hap hsel 13 rfl rfl ⟨_, hS⟩ rfl rfl rfl (fun w hI => (q_cast (v' := .bool true) (q_eql rfl rfl) (by simp))) ?_
        refine p_q hap hsel 14 rfl rfl ⟨_, hS⟩ (fun w hI => q_pick_t rfl rfl) ?_
        refine p_q hap hsel 15 rfl rfl ⟨_, hS⟩ (fun w hI => q_mv (.bool _) rfl) ?_
        refine p_yes hap hsel 16 rfl rfl ⟨_, hS⟩ rfl rfl rfl (fun w hI => q_mv (.pointer _) rfl) ?_
        refine p_yes hap hsel 18 rfl rfl ⟨_, hS⟩ rfl rfl rfl (fun w hI => q_mv (.pointer _) rfl) ?_
        refine p_yes hap hsel 19 rfl rfl ⟨_, hS⟩ rfl rfl rfl (fun w hI => q_nilCheck rfl) ?_
        refine p_yes hap hsel 20 rfl rfl ⟨_, hS⟩ rfl rfl rfl (fun w hI => q_fieldAddr 1 Try.runUnderlying87 rfl Try.sizeOf4 (by decide) rfl rfl) ?_
        refine p_two 17 21 rfl rfl (by kernel_rfl) ?_ ?_
        ·
          refine t_yes rfl rfl rfl ?_
          refine t_call Try.call40 (rBad hS (by repeat first | exact .here _ _ | assumption | apply Pick.there)) rfl ?_
          rintro e w ⟨rfl, hS⟩
          refine ⟨_, rfl, ?_⟩
          refine t_nil ?_
          refine ⟨.inr ⟨_, hS⟩, ?_⟩
          refine p_one 21 rfl (by kernel_rfl) ?_
          refine t_yes rfl rfl rfl ?_
          refine t_q (q_load1 Try.isAgg4 rfl (hS.cell (by repeat first | exact .here _ _ | assumption | apply Pick.there) rfl)) ?_
          refine t_nil ?_
          refine ⟨.inr ⟨_, hS⟩, ?_⟩
          refine p_yes hap hsel 22 rfl rfl ⟨_, hS⟩ rfl rfl rfl (fun w hI => (q_cast (v' := .bool true) (q_eql_bool Try.runUnderlying4 rfl rfl) (by simp))) ?_
          refine p_q hap hsel 23 rfl rfl ⟨_, hS⟩ (fun w hI => q_pick_t rfl rfl) ?_
          refine p_q hap hsel 24 rfl rfl ⟨_, hS⟩ (fun w hI => q_mv (.bool _) rfl) ?_
          refine p_one 25 rfl (by kernel_rfl) ?_
          refine t_yes rfl rfl rfl ?_
          refine t_call Try.call16 (vlives_calls) rfl ?_
          rintro e w ⟨rfl, hT⟩
          refine ⟨_, rfl, ?_⟩
          replace hS := hS.after hT
          refine t_nil ?_
          refine ⟨.inr ⟨_, hS⟩, ?_⟩
          refine p_q hap hsel 26 rfl rfl ⟨_, hS⟩ (fun w hI => q_pick_t rfl rfl) ?_
          refine p_q hap hsel 27 rfl rfl ⟨_, hS⟩ (fun w hI => q_as (.bool _) rfl) ?_
          refine p_end (by kernel_rfl) ?_
          refine c_ret ?_
          refine r_one rfl rfl ?_
          exact ⟨rfl, hS.nil⟩
        ·
          refine t_yes rfl rfl rfl ?_
          refine t_q (q_load1 Try.isAgg4 rfl (hS.cell (by repeat first | exact .here _ _ | assumption | apply Pick.there) rfl)) ?_
          refine t_nil ?_
          refine ⟨.inr ⟨_, hS⟩, ?_⟩
          refine p_one 17 rfl (by kernel_rfl) ?_
          refine t_yes rfl rfl rfl ?_
          refine t_call Try.call40 (rBad hS (by repeat first | exact .here _ _ | assumption | apply Pick.there)) rfl ?_
          rintro e w ⟨rfl, hS⟩
          refine ⟨_, rfl, ?_⟩
          refine t_nil ?_
          refine ⟨.inr ⟨_, hS⟩, ?_⟩
          refine p_yes hap hsel 22 rfl rfl ⟨_, hS⟩ rfl rfl rfl (fun w hI => (q_cast (v' := .bool true) (q_eql_bool Try.runUnderlying4 rfl rfl) (by simp))) ?_
          refine p_q hap hsel 23 rfl rfl ⟨_, hS⟩ (fun w hI => q_pick_t rfl rfl) ?_
          refine p_q hap hsel 24 rfl rfl ⟨_, hS⟩ (fun w hI => q_mv (.bool _) rfl) ?_
          refine p_one 25 rfl (by kernel_rfl) ?_
          refine t_yes rfl rfl rfl ?_
          refine t_call Try.call16 (vlives_calls) rfl ?_
          rintro e w ⟨rfl, hT⟩
          refine ⟨_, rfl, ?_⟩
          replace hS := hS.after hT
          refine t_nil ?_
          refine ⟨.inr ⟨_, hS⟩, ?_⟩
          refine p_q hap hsel 26 rfl rfl ⟨_, hS⟩ (fun w hI => q_pick_t rfl rfl) ?_
          refine p_q hap hsel 27 rfl rfl ⟨_, hS⟩ (fun w hI => q_as (.bool _) rfl) ?_
          refine p_end (by kernel_rfl) ?_
          refine c_ret ?_
          refine r_one rfl rfl ?_
          exact ⟨rfl, hS.nil⟩
      ·
        refine t_yes rfl rfl rfl ?_
        refine t_q (q_load1 Try.isAgg74 rfl (hS.cell (by repeat first | exact .here _ _ | assumption | apply Pick.there) rfl)) ?_
        refine t_nil ?_
        refine ⟨.inr ⟨_, hS⟩, ?_⟩
        refine p_yes hap hsel 12 rfl rfl ⟨_, hS⟩ rfl rfl rfl (fun w hI => q_len_slice Try.runUnderlying74 rfl) ?_
        refine p_one 7 rfl (by kernel_rfl) ?_
        refine t_yes rfl rfl rfl ?_
        refine t_call Try.call39 (rLeft hS (by repeat first | exact .here _ _ | assumption | apply Pick.there)) rfl ?_
        rintro e w ⟨rfl, hS⟩
        refine ⟨_, rfl, ?_⟩
        refine t_nil ?_
        refine ⟨.inr ⟨_, hS⟩, ?_⟩
        refine p_yes hap hsel 13 rfl rfl ⟨_, hS⟩ rfl rfl rfl (fun w hI => (q_cast (v' := .bool true) (q_eql rfl rfl) (by simp))) ?_
        refine p_q hap hsel 14 rfl rfl ⟨_, hS⟩ (fun w hI => q_pick_t rfl rfl) ?_
        refine p_q hap hsel 15 rfl rfl ⟨_, hS⟩ (fun w hI => q_mv (.bool _) rfl) ?_
        refine p_yes hap hsel 16 rfl rfl ⟨_, hS⟩ rfl rfl rfl (fun w hI => q_mv (.pointer _) rfl) ?_
        refine p_yes hap hsel 18 rfl rfl ⟨_, hS⟩ rfl rfl rfl (fun w hI => q_mv (.pointer _) rfl) ?_
        refine p_yes hap hsel 19 rfl rfl ⟨_, hS⟩ rfl rfl rfl (fun w hI => q_nilCheck rfl) ?_
        refine p_yes hap hsel 20 rfl rfl ⟨_, hS⟩ rfl rfl rfl (fun w hI => q_fieldAddr 1 Try.runUnderlying87 rfl Try.sizeOf4 (by decide) rfl rfl) ?_
        refine p_two 17 21 rfl rfl (by kernel_rfl) ?_ ?_
        ·
          refine t_yes rfl rfl rfl ?_
          refine t_call Try.call40 (rBad hS (by repeat first | exact .here _ _ | assumption | apply Pick.there)) rfl ?_
          rintro e w ⟨rfl, hS⟩
          refine ⟨_, rfl, ?_⟩
          refine t_nil ?_
          refine ⟨.inr ⟨_, hS⟩, ?_⟩
          refine p_one 21 rfl (by kernel_rfl) ?_
          refine t_yes rfl rfl rfl ?_
          refine t_q (q_load1 Try.isAgg4 rfl (hS.cell (by repeat first | exact .here _ _ | assumption | apply Pick.there) rfl)) ?_
          refine t_nil ?_
          refine ⟨.inr ⟨_, hS⟩, ?_⟩
          refine p_yes hap hsel 22 rfl rfl ⟨_, hS⟩ rfl rfl rfl (fun w hI => (q_cast (v' := .bool true) (q_eql_bool Try.runUnderlying4 rfl rfl) (by simp))) ?_
          refine p_q hap hsel 23 rfl rfl ⟨_, hS⟩ (fun w hI => q_pick_t rfl rfl) ?_
          refine p_q hap hsel 24 rfl rfl ⟨_, hS⟩ (fun w hI => q_mv (.bool _) rfl) ?_
          refine p_one 25 rfl (by kernel_rfl) ?_
          refine t_yes rfl rfl rfl ?_
          refine t_call Try.call16 (vlives_calls) rfl ?_
          rintro e w ⟨rfl, hT⟩
          refine ⟨_, rfl, ?_⟩
          replace hS := hS.after hT
          refine t_nil ?_
          refine ⟨.inr ⟨_, hS⟩, ?_⟩
          refine p_q hap hsel 26 rfl rfl ⟨_, hS⟩ (fun w hI => q_pick_t rfl rfl) ?_
          refine p_q hap hsel 27 rfl rfl ⟨_, hS⟩ (fun w hI => q_as (.bool _) rfl) ?_
          refine p_end (by kernel_rfl) ?_
          refine c_ret ?_
          refine r_one rfl rfl ?_
          exact ⟨rfl, hS.nil⟩
        ·
          refine t_yes rfl rfl rfl ?_
          refine t_q (q_load1 Try.isAgg4 rfl (hS.cell (by repeat first | exact .here _ _ | assumption | apply Pick.there) rfl)) ?_
          refine t_nil ?_
          refine ⟨.inr ⟨_, hS⟩, ?_⟩
          refine p_one 17 rfl (by kernel_rfl) ?_
          refine t_yes rfl rfl rfl ?_
          refine t_call Try.call40 (rBad hS (by repeat first | exact .here _ _ | assumption | apply Pick.there)) rfl ?_
          rintro e w ⟨rfl, hS⟩
          refine ⟨_, rfl, ?_⟩
          refine t_nil ?_
          refine ⟨.inr ⟨_, hS⟩, ?_⟩
          refine p_yes hap hsel 22 rfl rfl ⟨_, hS⟩ rfl rfl rfl (fun w hI => (q_cast (v' := .bool true) (q_eql_bool Try.runUnderlying4 rfl rfl) (by simp))) ?_
          refine p_q hap hsel 23 rfl rfl ⟨_, hS⟩ (fun w hI => q_pick_t rfl rfl) ?_
          refine p_q hap hsel 24 rfl rfl ⟨_, hS⟩ (fun w hI => q_mv (.bool _) rfl) ?_
          refine p_one 25 rfl (by kernel_rfl) ?_
          refine t_yes rfl rfl rfl ?_
          refine t_call Try.call16 (vlives_calls) rfl ?_
          rintro e w ⟨rfl, hT⟩
          refine ⟨_, rfl, ?_⟩
          replace hS := hS.after hT
          refine t_nil ?_
          refine ⟨.inr ⟨_, hS⟩, ?_⟩
          refine p_q hap hsel 26 rfl rfl ⟨_, hS⟩ (fun w hI => q_pick_t rfl rfl) ?_
          refine p_q hap hsel 27 rfl rfl ⟨_, hS⟩ (fun w hI => q_as (.bool _) rfl) ?_
          refine p_end (by kernel_rfl) ?_
          refine c_ret ?_
          refine r_one rfl rfl ?_
          exact ⟨rfl, hS.nil⟩
    ·
      refine t_call Try.call35 (qvput_calls hx) rfl ?_
      rintro e w ⟨A19, m19, c19, rfl, hm19, hT⟩
      refine ⟨_, rfl, ?_⟩
      have hS : St W w (_ :: _) := hS.lift hT
      refine t_nil ?_
      refine ⟨.inr ⟨_, hS.pick (by repeat first | exact .here _ _ | assumption | apply Pick.there)⟩, ?_⟩
      refine p_two 1 4 rfl rfl (by kernel_rfl) ?_ ?_
      ·
        refine t_q (q_string Try.runUnderlying74 Try.runUnderlying5 Try.runUnderlying9 rfl rfl (hS.rowRd (A := A16) (c := c16) (bs := stB x) (by repeat first | exact .here _ _ | assumption | apply Pick.there) rfl)) ?_
        refine t_nil ?_
        refine ⟨.inr ⟨_, hS.pick (by repeat first | exact .here _ _ | assumption | apply Pick.there)⟩, ?_⟩
        refine p_one 4 rfl (by kernel_rfl) ?_
        refine t_q (q_string Try.runUnderlying74 Try.runUnderlying5 Try.runUnderlying9 rfl hm19 (hS.rowRd (A := A19) (n := m19) (c := c19) (bs := stB x) (by repeat first | exact .here _ _ | assumption | apply Pick.there) hm19)) ?_
        refine t_nil ?_
        refine ⟨.inr ⟨_, hS.pick (by repeat first | exact .here _ _ | assumption | apply Pick.there)⟩, ?_⟩
        refine p_q hap hsel 5 rfl rfl ⟨_, hS.pick (by repeat first | exact .here _ _ | assumption | apply Pick.there)⟩ (fun w hI => (q_cast (v' := .bool false) (q_neq_string rfl rfl) (by simp))) ?_
        refine p_q hap hsel 6 rfl rfl ⟨_, hS.pick (by repeat first | exact .here _ _ | assumption | apply Pick.there)⟩ (fun w hI => q_mv (.bool _) rfl) ?_
        refine p_yes hap hsel 7 rfl rfl ⟨_, hS.pick (by repeat first | exact .here _ _ | assumption | apply Pick.there)⟩ rfl rfl rfl (fun w hI => q_mv (.pointer _) rfl) ?_
        refine p_yes hap hsel 9 rfl rfl ⟨_, hS.pick (by repeat first | exact .here _ _ | assumption | apply Pick.there)⟩ rfl rfl rfl (fun w hI => (q_cast (v' := .agg x.cells.toArray) (q_load_blk Try.isAgg28 Try.sizeOf28 rfl (hI.choose_spec.blk (by repeat first | exact .here _ _ | assumption | apply Pick.there)) rfl) (by rfl))) ?_
        refine p_one 8 rfl (by kernel_rfl) ?_
        refine t_yes rfl rfl rfl ?_
        refine t_call Try.call36 (vreado (s := (⟨stB x, false⟩ : Rs)) (K := rowA 5 1 A14 (stB x).length c14 ((stB x).map bv)) ((hS.pick (A := rowA 5 1 A14 (stB x).length c14 ((stB x).map bv)) (by repeat first | exact .here _ _ | assumption | apply Pick.there)).pick (A := rdO W (rowA 5 1 A14 (stB x).length c14 ((stB x).map bv)) 149 gR _) (by repeat first | exact .here _ _ | assumption | apply Pick.there))) rfl ?_
        rintro e w ⟨rfl, hS⟩
        refine ⟨_, rfl, ?_⟩
        rw [bk1]
        rw [bk2] at hS
        refine t_nil ?_
        refine ⟨.inr ⟨_, hS.pick (by repeat first | exact .here _ _ | assumption | apply Pick.there)⟩, ?_⟩
        refine p_yes hap hsel 10 rfl rfl ⟨_, hS.pick (by repeat first | exact .here _ _ | assumption | apply Pick.there)⟩ rfl rfl rfl (fun w hI => q_cast (v' := .bool false) (q_neq_sv (e := x) (q := x) rfl rfl hx.rg hx.rg) (by simp)) ?_
        refine p_q hap hsel 11 rfl rfl ⟨_, hS.pick (by repeat first | exact .here _ _ | assumption | apply Pick.there)⟩ (fun w hI => q_pick_f rfl rfl) ?_
        refine p_q hap hsel 12 rfl rfl ⟨_, hS.pick (by repeat first | exact .here _ _ | assumption | apply Pick.there)⟩ (fun w hI => q_mv (.bool _) rfl) ?_
        refine p_yes hap hsel 13 rfl rfl ⟨_, hS.pick (by repeat first | exact .here _ _ | assumption | apply Pick.there)⟩ rfl rfl rfl (fun w hI => q_mv (.pointer _) rfl) ?_
        refine p_one 14 rfl (by kernel_rfl) ?_
        refine t_yes rfl rfl rfl ?_
        refine t_call Try.call37 (oEnd hS (by repeat first | exact .here _ _ | assumption | apply Pick.there)) rfl ?_
        rintro e w ⟨rfl, hS⟩
        refine ⟨_, rfl, ?_⟩
        refine t_nil ?_
        refine ⟨.inr ⟨_, hS.pick (by repeat first | exact .here _ _ | assumption | apply Pick.there)⟩, ?_⟩
        refine p_yes hap hsel 15 rfl rfl ⟨_, hS.pick (by repeat first | exact .here _ _ | assumption | apply Pick.there)⟩ rfl rfl rfl (fun w hI => (q_cast (v' := .bool false) (q_neq rfl rfl) (by rfl))) ?_
        refine p_q hap hsel 16 rfl rfl ⟨_, hS.pick (by repeat first | exact .here _ _ | assumption | apply Pick.there)⟩ (fun w hI => q_pick_f rfl rfl) ?_
        refine p_end (by kernel_rfl) ?_
        refine c_cond_f rfl rfl ?_
        refine c_skip ?_
        refine c_seq ?_
        refine c_region ?_
        refine t_q (q_mv (.slice _ _ _) rfl) ?_
        refine t_call Try.call33 (Open_calls hS hR hc) rfl ?_
        rintro e w ⟨g34, rfl, hS⟩
        refine ⟨_, rfl, ?_⟩
        refine t_q (q_as (.pointer _) rfl) ?_
        refine t_nil ?_
        refine c_seq ?_
        refine c_region ?_
        refine t_q (q_mv (.slice _ _ _) rfl) ?_
        refine t_q (q_build (qs := [(0, 1), (1, 1)]) [(.slice _ _ _), (.bool _)] Try.zeroValue87 Try.runUnderlying87 ⟨rfl, Try.sizeOf74, rfl, Try.sizeOf4, trivial⟩ rfl rfl) ?_
        refine t_box (v := (.agg _)) rfl rfl hS (fun g37 w hS => ?_)
        replace hS := hS.recast (show _ = blkA g37 87 [.slice A bs.length c, .bool false] from rfl)
        replace hS := hS.unrdr (s := (⟨bs, false⟩ : Rs)) rfl rfl hR hc
        refine t_q (q_as (.pointer _) rfl) ?_
        refine t_nil ?_
        refine c_seq ?_
        refine c_draw ?_
        refine d_free 28 [0, 1, 2, 3, 4, 5, 6, 7, 8, 9, 10, 11, 12, 13, 14, 15, 16, 17, 18, 19, 20, 21, 22, 23, 24, 25, 26, 27] [0, 1, 2, 3, 4, 5, 6, 7, 8, 9, 10, 11, 12, 13, 14, 15, 16, 17, 18, 19, 20, 21, 22, 23, 24, 25, 26, 27] hS rfl (by kernel_rfl) (by kernel_rfl) (by kernel_rfl) (by kernel_rfl) (fun hap hsel w hS => ?_)
        refine p_q hap hsel 0 rfl rfl ⟨_, hS⟩ (fun w hI => q_mv (.pointer _) rfl) ?_
        refine p_q hap hsel 2 rfl rfl ⟨_, hS⟩ (fun w hI => q_mv (.pointer _) rfl) ?_
        refine p_one 1 rfl (by kernel_rfl) ?_
        refine t_call Try.call36 (vreadr (s := (⟨bs, false⟩ : Rs)) (hS.pick (A := rdrA W 149 g34 _) (by repeat first | exact .here _ _ | assumption | apply Pick.there))) rfl ?_
        rintro e w ⟨rfl, hS⟩
        refine ⟨_, rfl, ?_⟩
        refine t_nil ?_
        refine ⟨.inr ⟨_, hS⟩, ?_⟩
        refine p_one 3 rfl (by kernel_rfl) ?_
        refine t_call Try.call38 (qvread (s := (⟨bs, false⟩ : Rs)) hS (by repeat first | exact .here _ _ | assumption | apply Pick.there)) rfl ?_
        rintro e w ⟨rfl, hS⟩
        refine ⟨_, rfl, ?_⟩
        obtain ⟨A1, c1, hR1, hc1, hS⟩ := (hS.pick (A := rdrA W 87 g37 _) (by repeat first | exact .here _ _ | assumption | apply Pick.there)).rdr
        refine t_nil ?_
        refine ⟨.inr ⟨_, hS⟩, ?_⟩
        refine p_q hap hsel 4 rfl rfl ⟨_, hS⟩ (fun w hI => q_cast (v' := .bool true) (q_eql_qsv (e := vrd (⟨bs, false⟩ : Rs)) (q := vrd (⟨bs, false⟩ : Rs)) rfl rfl (vrd_in (⟨bs, false⟩ : Rs)).rg (vrd_in (⟨bs, false⟩ : Rs)).rg) (by simp)) ?_
        refine p_q hap hsel 5 rfl rfl ⟨_, hS⟩ (fun w hI => q_mv (.bool _) rfl) ?_
        refine p_yes hap hsel 6 rfl rfl ⟨_, hS⟩ rfl rfl rfl (fun w hI => q_mv (.pointer _) rfl) ?_
        refine p_yes hap hsel 8 rfl rfl ⟨_, hS⟩ rfl rfl rfl (fun w hI => q_mv (.pointer _) rfl) ?_
        refine p_yes hap hsel 9 rfl rfl ⟨_, hS⟩ rfl rfl rfl (fun w hI => q_nilCheck rfl) ?_
        refine p_yes hap hsel 10 rfl rfl ⟨_, hS⟩ rfl rfl rfl (fun w hI => q_fieldAddr 0 Try.runUnderlying87 rfl Try.sizeOf74 (by decide) rfl rfl) ?_
        refine p_two 7 11 rfl rfl (by kernel_rfl) ?_ ?_
        ·
          refine t_yes rfl rfl rfl ?_
          refine t_call Try.call39 (rLeft hS (by repeat first | exact .here _ _ | assumption | apply Pick.there)) rfl ?_
          rintro e w ⟨rfl, hS⟩
          refine ⟨_, rfl, ?_⟩
          refine t_nil ?_
          refine ⟨.inr ⟨_, hS⟩, ?_⟩
          refine p_one 11 rfl (by kernel_rfl) ?_
          refine t_yes rfl rfl rfl ?_
          refine t_q (q_load1 Try.isAgg74 rfl (hS.cell (by repeat first | exact .here _ _ | assumption | apply Pick.there) rfl)) ?_
          refine t_nil ?_
          refine ⟨.inr ⟨_, hS⟩, ?_⟩
          refine p_yes hap hsel 12 rfl rfl ⟨_, hS⟩ rfl rfl rfl (fun w hI => q_len_slice Try.runUnderlying74 rfl) ?_
          refine p_yes hap hsel 13 rfl rfl ⟨_, hS⟩ rfl rfl rfl (fun w hI => (q_cast (v' := .bool true) (q_eql rfl rfl) (by simp))) ?_
          refine p_q hap hsel 14 rfl rfl ⟨_, hS⟩ (fun w hI => q_pick_t rfl rfl) ?_
          refine p_q hap hsel 15 rfl rfl ⟨_, hS⟩ (fun w hI => q_mv (.bool _) rfl) ?_
          refine p_yes hap hsel 16 rfl rfl ⟨_, hS⟩ rfl rfl rfl (fun w hI => q_mv (.pointer _) rfl) ?_
          refine p_yes hap hsel 18 rfl rfl ⟨_, hS⟩ rfl rfl rfl (fun w hI => q_mv (.pointer _) rfl) ?_
          refine p_yes hap hsel 19 rfl rfl ⟨_, hS⟩ rfl rfl rfl (fun w hI => q_nilCheck rfl) ?_
          refine p_yes hap hsel 20 rfl rfl ⟨_, hS⟩ rfl rfl rfl (fun w hI => q_fieldAddr 1 Try.runUnderlying87 rfl Try.sizeOf4 (by decide) rfl rfl) ?_
          refine p_two 17 21 rfl rfl (by kernel_rfl) ?_ ?_
          ·
            refine t_yes rfl rfl rfl ?_
            refine t_call Try.call40 (rBad hS (by repeat first | exact .here _ _ | assumption | apply Pick.there)) rfl ?_
            rintro e w ⟨rfl, hS⟩
            refine ⟨_, rfl, ?_⟩
            refine t_nil ?_
            refine ⟨.inr ⟨_, hS⟩, ?_⟩
            refine p_one 21 rfl (by kernel_rfl) ?_
            refine t_yes rfl rfl rfl ?_
            refine t_q (q_load1 Try.isAgg4 rfl (hS.cell (by repeat first | exact .here _ _ | assumption | apply Pick.there) rfl)) ?_
            refine t_nil ?_
            refine ⟨.inr ⟨_, hS⟩, ?_⟩
            refine p_yes hap hsel 22 rfl rfl ⟨_, hS⟩ rfl rfl rfl (fun w hI => (q_cast (v' := .bool true) (q_eql_bool Try.runUnderlying4 rfl rfl) (by simp))) ?_
            refine p_q hap hsel 23 rfl rfl ⟨_, hS⟩ (fun w hI => q_pick_t rfl rfl) ?_
            refine p_q hap hsel 24 rfl rfl ⟨_, hS⟩ (fun w hI => q_mv (.bool _) rfl) ?_
            refine p_one 25 rfl (by kernel_rfl) ?_
            refine t_yes rfl rfl rfl ?_
            refine t_call Try.call16 (vlives_calls) rfl ?_
            rintro e w ⟨rfl, hT⟩
            refine ⟨_, rfl, ?_⟩
            replace hS := hS.after hT
            refine t_nil ?_
            refine ⟨.inr ⟨_, hS⟩, ?_⟩
            refine p_q hap hsel 26 rfl rfl ⟨_, hS⟩ (fun w hI => q_pick_t rfl rfl) ?_
            refine p_q hap hsel 27 rfl rfl ⟨_, hS⟩ (fun w hI => q_as (.bool _) rfl) ?_
            refine p_end (by kernel_rfl) ?_
            refine c_ret ?_
            refine r_one rfl rfl ?_
            exact ⟨rfl, hS.nil⟩
          ·
            refine t_yes rfl rfl rfl ?_
            refine t_q (q_load1 Try.isAgg4 rfl (hS.cell (by repeat first | exact .here _ _ | assumption | apply Pick.there) rfl)) ?_
            refine t_nil ?_
            refine ⟨.inr ⟨_, hS⟩, ?_⟩
            refine p_one 17 rfl (by kernel_rfl) ?_
            refine t_yes rfl rfl rfl ?_
            refine t_call Try.call40 (rBad hS (by repeat first | exact .here _ _ | assumption | apply Pick.there)) rfl ?_
            rintro e w ⟨rfl, hS⟩
            refine ⟨_, rfl, ?_⟩
            refine t_nil ?_
            refine ⟨.inr ⟨_, hS⟩, ?_⟩
            refine p_yes hap hsel 22 rfl rfl ⟨_, hS⟩ rfl rfl rfl (fun w hI => (q_cast (v' := .bool true) (q_eql_bool Try.runUnderlying4 rfl rfl) (by simp))) ?_
            refine p_q hap hsel 23 rfl rfl ⟨_, hS⟩ (fun w hI => q_pick_t rfl rfl) ?_
            refine p_q hap hsel 24 rfl rfl ⟨_, hS⟩ (fun w hI => q_mv (.bool _) rfl) ?_
            refine p_one 25 rfl (by kernel_rfl) ?_
            refine t_yes rfl rfl rfl ?_
            refine t_call Try.call16 (vlives_calls) rfl ?_
            rintro e w ⟨rfl, hT⟩
            refine ⟨_, rfl, ?_⟩
            replace hS := hS.after hT
            refine t_nil ?_
            refine ⟨.inr ⟨_, hS⟩, ?_⟩
            refine p_q hap hsel 26 rfl rfl ⟨_, hS⟩ (fun w hI => q_pick_t rfl rfl) ?_
            refine p_q hap hsel 27 rfl rfl ⟨_, hS⟩ (fun w hI => q_as (.bool _) rfl) ?_
            refine p_end (by kernel_rfl) ?_
            refine c_ret ?_
            refine r_one rfl rfl ?_
            exact ⟨rfl, hS.nil⟩
        ·
          refine t_yes rfl rfl rfl ?_
          refine t_q (q_load1 Try.isAgg74 rfl (hS.cell (by repeat first | exact .here _ _ | assumption | apply Pick.there) rfl)) ?_
          refine t_nil ?_
          refine ⟨.inr ⟨_, hS⟩, ?_⟩
          refine p_yes hap hsel 12 rfl rfl ⟨_, hS⟩ rfl rfl rfl (fun w hI => q_len_slice Try.runUnderlying74 rfl) ?_
          refine p_one 7 rfl (by kernel_rfl) ?_
          refine t_yes rfl rfl rfl ?_
          refine t_call Try.call39 (rLeft hS (by repeat first | exact .here _ _ | assumption | apply Pick.there)) rfl ?_
          rintro e w ⟨rfl, hS⟩
          refine ⟨_, rfl, ?_⟩
          refine t_nil ?_
          refine ⟨.inr ⟨_, hS⟩, ?_⟩
          refine p_yes hap hsel 13 rfl rfl ⟨_, hS⟩ rfl rfl rfl (fun w hI => (q_cast (v' := .bool true) (q_eql rfl rfl) (by simp))) ?_
          refine p_q hap hsel 14 rfl rfl ⟨_, hS⟩ (fun w hI => q_pick_t rfl rfl) ?_
          refine p_q hap hsel 15 rfl rfl ⟨_, hS⟩ (fun w hI => q_mv (.bool _) rfl) ?_
          refine p_yes hap hsel 16 rfl rfl ⟨_, hS⟩ rfl rfl rfl (fun w hI => q_mv (.pointer _) rfl) ?_
          refine p_yes hap hsel 18 rfl rfl ⟨_, hS⟩ rfl rfl rfl (fun w hI => q_mv (.pointer _) rfl) ?_
          refine p_yes hap hsel 19 rfl rfl ⟨_, hS⟩ rfl rfl rfl (fun w hI => q_nilCheck rfl) ?_
          refine p_yes hap hsel 20 rfl rfl ⟨_, hS⟩ rfl rfl rfl (fun w hI => q_fieldAddr 1 Try.runUnderlying87 rfl Try.sizeOf4 (by decide) rfl rfl) ?_
          refine p_two 17 21 rfl rfl (by kernel_rfl) ?_ ?_
          ·
            refine t_yes rfl rfl rfl ?_
            refine t_call Try.call40 (rBad hS (by repeat first | exact .here _ _ | assumption | apply Pick.there)) rfl ?_
            rintro e w ⟨rfl, hS⟩
            refine ⟨_, rfl, ?_⟩
            refine t_nil ?_
            refine ⟨.inr ⟨_, hS⟩, ?_⟩
            refine p_one 21 rfl (by kernel_rfl) ?_
            refine t_yes rfl rfl rfl ?_
            refine t_q (q_load1 Try.isAgg4 rfl (hS.cell (by repeat first | exact .here _ _ | assumption | apply Pick.there) rfl)) ?_
            refine t_nil ?_
            refine ⟨.inr ⟨_, hS⟩, ?_⟩
            refine p_yes hap hsel 22 rfl rfl ⟨_, hS⟩ rfl rfl rfl (fun w hI => (q_cast (v' := .bool true) (q_eql_bool Try.runUnderlying4 rfl rfl) (by simp))) ?_
            refine p_q hap hsel 23 rfl rfl ⟨_, hS⟩ (fun w hI => q_pick_t rfl rfl) ?_
            refine p_q hap hsel 24 rfl rfl ⟨_, hS⟩ (fun w hI => q_mv (.bool _) rfl) ?_
            refine p_one 25 rfl (by kernel_rfl) ?_
            refine t_yes rfl rfl rfl ?_
            refine t_call Try.call16 (vlives_calls) rfl ?_
            rintro e w ⟨rfl, hT⟩
            refine ⟨_, rfl, ?_⟩
            replace hS := hS.after hT
            refine t_nil ?_
            refine ⟨.inr ⟨_, hS⟩, ?_⟩
            refine p_q hap hsel 26 rfl rfl ⟨_, hS⟩ (fun w hI => q_pick_t rfl rfl) ?_
            refine p_q hap hsel 27 rfl rfl ⟨_, hS⟩ (fun w hI => q_as (.bool _) rfl) ?_
            refine p_end (by kernel_rfl) ?_
            refine c_ret ?_
            refine r_one rfl rfl ?_
            exact ⟨rfl, hS.nil⟩
          ·
            refine t_yes rfl rfl rfl ?_
            refine t_q (q_load1 Try.isAgg4 rfl (hS.cell (by repeat first | exact .here _ _ | assumption | apply Pick.there) rfl)) ?_
            refine t_nil ?_
            refine ⟨.inr ⟨_, hS⟩, ?_⟩
            refine p_one 17 rfl (by kernel_rfl) ?_
            refine t_yes rfl rfl rfl ?_
            refine t_call Try.call40 (rBad hS (by repeat first | exact .here _ _ | assumption | apply Pick.there)) rfl ?_
            rintro e w ⟨rfl, hS⟩
            refine ⟨_, rfl, ?_⟩
            refine t_nil ?_
            refine ⟨.inr ⟨_, hS⟩, ?_⟩
            refine p_yes hap hsel 22 rfl rfl ⟨_, hS⟩ rfl rfl rfl (fun w hI => (q_cast (v' := .bool true) (q_eql_bool Try.runUnderlying4 rfl rfl) (by simp))) ?_
            refine p_q hap hsel 23 rfl rfl ⟨_, hS⟩ (fun w hI => q_pick_t rfl rfl) ?_
            refine p_q hap hsel 24 rfl rfl ⟨_, hS⟩ (fun w hI => q_mv (.bool _) rfl) ?_
            refine p_one 25 rfl (by kernel_rfl) ?_
            refine t_yes rfl rfl rfl ?_
            refine t_call Try.call16 (vlives_calls) rfl ?_
            rintro e w ⟨rfl, hT⟩
            refine ⟨_, rfl, ?_⟩
            replace hS := hS.after hT
            refine t_nil ?_
            refine ⟨.inr ⟨_, hS⟩, ?_⟩
            refine p_q hap hsel 26 rfl rfl ⟨_, hS⟩ (fun w hI => q_pick_t rfl rfl) ?_
            refine p_q hap hsel 27 rfl rfl ⟨_, hS⟩ (fun w hI => q_as (.bool _) rfl) ?_
            refine p_end (by kernel_rfl) ?_
            refine c_ret ?_
            refine r_one rfl rfl ?_
            exact ⟨rfl, hS.nil⟩
      ·
        refine t_q (q_string Try.runUnderlying74 Try.runUnderlying5 Try.runUnderlying9 rfl hm19 (hS.rowRd (A := A19) (n := m19) (c := c19) (bs := stB x) (by repeat first | exact .here _ _ | assumption | apply Pick.there) hm19)) ?_
        refine t_nil ?_
        refine ⟨.inr ⟨_, hS.pick (by repeat first | exact .here _ _ | assumption | apply Pick.there)⟩, ?_⟩
        refine p_one 1 rfl (by kernel_rfl) ?_
        refine t_q (q_string Try.runUnderlying74 Try.runUnderlying5 Try.runUnderlying9 rfl rfl (hS.rowRd (A := A16) (c := c16) (bs := stB x) (by repeat first | exact .here _ _ | assumption | apply Pick.there) rfl)) ?_
        refine t_nil ?_
        refine ⟨.inr ⟨_, hS.pick (by repeat first | exact .here _ _ | assumption | apply Pick.there)⟩, ?_⟩
        refine p_q hap hsel 5 rfl rfl ⟨_, hS.pick (by repeat first | exact .here _ _ | assumption | apply Pick.there)⟩ (fun w hI => (q_cast (v' := .bool false) (q_neq_string rfl rfl) (by simp))) ?_
        refine p_q hap hsel 6 rfl rfl ⟨_, hS.pick (by repeat first | exact .here _ _ | assumption | apply Pick.there)⟩ (fun w hI => q_mv (.bool _) rfl) ?_
        refine p_yes hap hsel 7 rfl rfl ⟨_, hS.pick (by repeat first | exact .here _ _ | assumption | apply Pick.there)⟩ rfl rfl rfl (fun w hI => q_mv (.pointer _) rfl) ?_
        refine p_yes hap hsel 9 rfl rfl ⟨_, hS.pick (by repeat first | exact .here _ _ | assumption | apply Pick.there)⟩ rfl rfl rfl (fun w hI => (q_cast (v' := .agg x.cells.toArray) (q_load_blk Try.isAgg28 Try.sizeOf28 rfl (hI.choose_spec.blk (by repeat first | exact .here _ _ | assumption | apply Pick.there)) rfl) (by rfl))) ?_
        refine p_one 8 rfl (by kernel_rfl) ?_
        refine t_yes rfl rfl rfl ?_
        refine t_call Try.call36 (vreado (s := (⟨stB x, false⟩ : Rs)) (K := rowA 5 1 A14 (stB x).length c14 ((stB x).map bv)) ((hS.pick (A := rowA 5 1 A14 (stB x).length c14 ((stB x).map bv)) (by repeat first | exact .here _ _ | assumption | apply Pick.there)).pick (A := rdO W (rowA 5 1 A14 (stB x).length c14 ((stB x).map bv)) 149 gR _) (by repeat first | exact .here _ _ | assumption | apply Pick.there))) rfl ?_
        rintro e w ⟨rfl, hS⟩
        refine ⟨_, rfl, ?_⟩
        rw [bk1]
        rw [bk2] at hS
        refine t_nil ?_
        refine ⟨.inr ⟨_, hS.pick (by repeat first | exact .here _ _ | assumption | apply Pick.there)⟩, ?_⟩
        refine p_yes hap hsel 10 rfl rfl ⟨_, hS.pick (by repeat first | exact .here _ _ | assumption | apply Pick.there)⟩ rfl rfl rfl (fun w hI => q_cast (v' := .bool false) (q_neq_sv (e := x) (q := x) rfl rfl hx.rg hx.rg) (by simp)) ?_
        refine p_q hap hsel 11 rfl rfl ⟨_, hS.pick (by repeat first | exact .here _ _ | assumption | apply Pick.there)⟩ (fun w hI => q_pick_f rfl rfl) ?_
        refine p_q hap hsel 12 rfl rfl ⟨_, hS.pick (by repeat first | exact .here _ _ | assumption | apply Pick.there)⟩ (fun w hI => q_mv (.bool _) rfl) ?_
        refine p_yes hap hsel 13 rfl rfl ⟨_, hS.pick (by repeat first | exact .here _ _ | assumption | apply Pick.there)⟩ rfl rfl rfl (fun w hI => q_mv (.pointer _) rfl) ?_
        refine p_one 14 rfl (by kernel_rfl) ?_
        refine t_yes rfl rfl rfl ?_
        refine t_call Try.call37 (oEnd hS (by repeat first | exact .here _ _ | assumption | apply Pick.there)) rfl ?_
        rintro e w ⟨rfl, hS⟩
        refine ⟨_, rfl, ?_⟩
        refine t_nil ?_
        refine ⟨.inr ⟨_, hS.pick (by repeat first | exact .here _ _ | assumption | apply Pick.there)⟩, ?_⟩
        refine p_yes hap hsel 15 rfl rfl ⟨_, hS.pick (by repeat first | exact .here _ _ | assumption | apply Pick.there)⟩ rfl rfl rfl (fun w hI => (q_cast (v' := .bool false) (q_neq rfl rfl) (by rfl))) ?_
        refine p_q hap hsel 16 rfl rfl ⟨_, hS.pick (by repeat first | exact .here _ _ | assumption | apply Pick.there)⟩ (fun w hI => q_pick_f rfl rfl) ?_
        refine p_end (by kernel_rfl) ?_
        refine c_cond_f rfl rfl ?_
        refine c_skip ?_
        refine c_seq ?_
        refine c_region ?_
        refine t_q (q_mv (.slice _ _ _) rfl) ?_
        refine t_call Try.call33 (Open_calls hS hR hc) rfl ?_
        rintro e w ⟨g34, rfl, hS⟩
        refine ⟨_, rfl, ?_⟩
        refine t_q (q_as (.pointer _) rfl) ?_
        refine t_nil ?_
        refine c_seq ?_
        refine c_region ?_
        refine t_q (q_mv (.slice _ _ _) rfl) ?_
        refine t_q (q_build (qs := [(0, 1), (1, 1)]) [(.slice _ _ _), (.bool _)] Try.zeroValue87 Try.runUnderlying87 ⟨rfl, Try.sizeOf74, rfl, Try.sizeOf4, trivial⟩ rfl rfl) ?_
        refine t_box (v := (.agg _)) rfl rfl hS (fun g37 w hS => ?_)
        replace hS := hS.recast (show _ = blkA g37 87 [.slice A bs.length c, .bool false] from rfl)
        replace hS := hS.unrdr (s := (⟨bs, false⟩ : Rs)) rfl rfl hR hc
        refine t_q (q_as (.pointer _) rfl) ?_
        refine t_nil ?_
        refine c_seq ?_
        refine c_draw ?_
        refine d_free 28 [0, 1, 2, 3, 4, 5, 6, 7, 8, 9, 10, 11, 12, 13, 14, 15, 16, 17, 18, 19, 20, 21, 22, 23, 24, 25, 26, 27] [0, 1, 2, 3, 4, 5, 6, 7, 8, 9, 10, 11, 12, 13, 14, 15, 16, 17, 18, 19, 20, 21, 22, 23, 24, 25, 26, 27] hS rfl (by kernel_rfl) (by kernel_rfl) (by kernel_rfl) (by kernel_rfl) (fun hap hsel w hS => ?_)
        refine p_q hap hsel 0 rfl rfl ⟨_, hS⟩ (fun w hI => q_mv (.pointer _) rfl) ?_
        refine p_q hap hsel 2 rfl rfl ⟨_, hS⟩ (fun w hI => q_mv (.pointer _) rfl) ?_
        refine p_one 1 rfl (by kernel_rfl) ?_
        refine t_call Try.call36 (vreadr (s := (⟨bs, false⟩ : Rs)) (hS.pick (A := rdrA W 149 g34 _) (by repeat first | exact .here _ _ | assumption | apply Pick.there))) rfl ?_
        rintro e w ⟨rfl, hS⟩
        refine ⟨_, rfl, ?_⟩
        refine t_nil ?_
        refine ⟨.inr ⟨_, hS⟩, ?_⟩
        refine p_one 3 rfl (by kernel_rfl) ?_
        refine t_call Try.call38 (qvread (s := (⟨bs, false⟩ : Rs)) hS (by repeat first | exact .here _ _ | assumption | apply Pick.there)) rfl ?_
        rintro e w ⟨rfl, hS⟩
        refine ⟨_, rfl, ?_⟩
        obtain ⟨A1, c1, hR1, hc1, hS⟩ := (hS.pick (A := rdrA W 87 g37 _) (by repeat first | exact .here _ _ | assumption | apply Pick.there)).rdr
        refine t_nil ?_
        refine ⟨.inr ⟨_, hS⟩, ?_⟩
        refine p_q hap hsel 4 rfl rfl ⟨_, hS⟩ (fun w hI => q_cast (v' := .bool true) (q_eql_qsv (e := vrd (⟨bs, false⟩ : Rs)) (q := vrd (⟨bs, false⟩ : Rs)) rfl rfl (vrd_in (⟨bs, false⟩ : Rs)).rg (vrd_in (⟨bs, false⟩ : Rs)).rg) (by simp)) ?_
        refine p_q hap hsel 5 rfl rfl ⟨_, hS⟩ (fun w hI => q_mv (.bool _) rfl) ?_
        refine p_yes hap hsel 6 rfl rfl ⟨_, hS⟩ rfl rfl rfl (fun w hI => q_mv (.pointer _) rfl) ?_
        refine p_yes hap hsel 8 rfl rfl ⟨_, hS⟩ rfl rfl rfl (fun w hI => q_mv (.pointer _) rfl) ?_
        refine p_yes hap hsel 9 rfl rfl ⟨_, hS⟩ rfl rfl rfl (fun w hI => q_nilCheck rfl) ?_
        refine p_yes hap hsel 10 rfl rfl ⟨_, hS⟩ rfl rfl rfl (fun w hI => q_fieldAddr 0 Try.runUnderlying87 rfl Try.sizeOf74 (by decide) rfl rfl) ?_
        refine p_two 7 11 rfl rfl (by kernel_rfl) ?_ ?_
        ·
          refine t_yes rfl rfl rfl ?_
          refine t_call Try.call39 (rLeft hS (by repeat first | exact .here _ _ | assumption | apply Pick.there)) rfl ?_
          rintro e w ⟨rfl, hS⟩
          refine ⟨_, rfl, ?_⟩
          refine t_nil ?_
          refine ⟨.inr ⟨_, hS⟩, ?_⟩
          refine p_one 11 rfl (by kernel_rfl) ?_
          refine t_yes rfl rfl rfl ?_
          refine t_q (q_load1 Try.isAgg74 rfl (hS.cell (by repeat first | exact .here _ _ | assumption | apply Pick.there) rfl)) ?_
          refine t_nil ?_
          refine ⟨.inr ⟨_, hS⟩, ?_⟩
          refine p_yes hap hsel 12 rfl rfl ⟨_, hS⟩ rfl rfl rfl (fun w hI => q_len_slice Try.runUnderlying74 rfl) ?_
          refine p_yes hap hsel 13 rfl rfl ⟨_, hS⟩ rfl rfl rfl (fun w hI => (q_cast (v' := .bool true) (q_eql rfl rfl) (by simp))) ?_
          refine p_q hap hsel 14 rfl rfl ⟨_, hS⟩ (fun w hI => q_pick_t rfl rfl) ?_
          refine p_q hap hsel 15 rfl rfl ⟨_, hS⟩ (fun w hI => q_mv (.bool _) rfl) ?_
          refine p_yes hap hsel 16 rfl rfl ⟨_, hS⟩ rfl rfl rfl (fun w hI => q_mv (.pointer _) rfl) ?_
          refine p_yes hap hsel 18 rfl rfl ⟨_, hS⟩ rfl rfl rfl (fun w hI => q_mv (.pointer _) rfl) ?_
          refine p_yes hap hsel 19 rfl rfl ⟨_, hS⟩ rfl rfl rfl (fun w hI => q_nilCheck rfl) ?_
          refine p_yes hap hsel 20 rfl rfl ⟨_, hS⟩ rfl rfl rfl (fun w hI => q_fieldAddr 1 Try.runUnderlying87 rfl Try.sizeOf4 (by decide) rfl rfl) ?_
          refine p_two 17 21 rfl rfl (by kernel_rfl) ?_ ?_
          ·
            refine t_yes rfl rfl rfl ?_
            refine t_call Try.call40 (rBad hS (by repeat first | exact .here _ _ | assumption | apply Pick.there)) rfl ?_
            rintro e w ⟨rfl, hS⟩
            refine ⟨_, rfl, ?_⟩
            refine t_nil ?_
            refine ⟨.inr ⟨_, hS⟩, ?_⟩
            refine p_one 21 rfl (by kernel_rfl) ?_
            refine t_yes rfl rfl rfl ?_
            refine t_q (q_load1 Try.isAgg4 rfl (hS.cell (by repeat first | exact .here _ _ | assumption | apply Pick.there) rfl)) ?_
            refine t_nil ?_
            refine ⟨.inr ⟨_, hS⟩, ?_⟩
            refine p_yes hap hsel 22 rfl rfl ⟨_, hS⟩ rfl rfl rfl (fun w hI => (q_cast (v' := .bool true) (q_eql_bool Try.runUnderlying4 rfl rfl) (by simp))) ?_
            refine p_q hap hsel 23 rfl rfl ⟨_, hS⟩ (fun w hI => q_pick_t rfl rfl) ?_
            refine p_q hap hsel 24 rfl rfl ⟨_, hS⟩ (fun w hI => q_mv (.bool _) rfl) ?_
            refine p_one 25 rfl (by kernel_rfl) ?_
            refine t_yes rfl rfl rfl ?_
            refine t_call Try.call16 (vlives_calls) rfl ?_
            rintro e w ⟨rfl, hT⟩
            refine ⟨_, rfl, ?_⟩
            replace hS := hS.after hT
            refine t_nil ?_
            refine ⟨.inr ⟨_, hS⟩, ?_⟩
            refine p_q hap hsel 26 rfl rfl ⟨_, hS⟩ (fun w hI => q_pick_t rfl rfl) ?_
            refine p_q hap hsel 27 rfl rfl ⟨_, hS⟩ (fun w hI => q_as (.bool _) rfl) ?_
            refine p_end (by kernel_rfl) ?_
            refine c_ret ?_
            refine r_one rfl rfl ?_
            exact ⟨rfl, hS.nil⟩
          ·
            refine t_yes rfl rfl rfl ?_
            refine t_q (q_load1 Try.isAgg4 rfl (hS.cell (by repeat first | exact .here _ _ | assumption | apply Pick.there) rfl)) ?_
            refine t_nil ?_
            refine ⟨.inr ⟨_, hS⟩, ?_⟩
            refine p_one 17 rfl (by kernel_rfl) ?_
            refine t_yes rfl rfl rfl ?_
            refine t_call Try.call40 (rBad hS (by repeat first | exact .here _ _ | assumption | apply Pick.there)) rfl ?_
            rintro e w ⟨rfl, hS⟩
            refine ⟨_, rfl, ?_⟩
            refine t_nil ?_
            refine ⟨.inr ⟨_, hS⟩, ?_⟩
            refine p_yes hap hsel 22 rfl rfl ⟨_, hS⟩ rfl rfl rfl (fun w hI => (q_cast (v' := .bool true) (q_eql_bool Try.runUnderlying4 rfl rfl) (by simp))) ?_
            refine p_q hap hsel 23 rfl rfl ⟨_, hS⟩ (fun w hI => q_pick_t rfl rfl) ?_
            refine p_q hap hsel 24 rfl rfl ⟨_, hS⟩ (fun w hI => q_mv (.bool _) rfl) ?_
            refine p_one 25 rfl (by kernel_rfl) ?_
            refine t_yes rfl rfl rfl ?_
            refine t_call Try.call16 (vlives_calls) rfl ?_
            rintro e w ⟨rfl, hT⟩
            refine ⟨_, rfl, ?_⟩
            replace hS := hS.after hT
            refine t_nil ?_
            refine ⟨.inr ⟨_, hS⟩, ?_⟩
            refine p_q hap hsel 26 rfl rfl ⟨_, hS⟩ (fun w hI => q_pick_t rfl rfl) ?_
            refine p_q hap hsel 27 rfl rfl ⟨_, hS⟩ (fun w hI => q_as (.bool _) rfl) ?_
            refine p_end (by kernel_rfl) ?_
            refine c_ret ?_
            refine r_one rfl rfl ?_
            exact ⟨rfl, hS.nil⟩
        ·
          refine t_yes rfl rfl rfl ?_
          refine t_q (q_load1 Try.isAgg74 rfl (hS.cell (by repeat first | exact .here _ _ | assumption | apply Pick.there) rfl)) ?_
          refine t_nil ?_
          refine ⟨.inr ⟨_, hS⟩, ?_⟩
          refine p_yes hap hsel 12 rfl rfl ⟨_, hS⟩ rfl rfl rfl (fun w hI => q_len_slice Try.runUnderlying74 rfl) ?_
          refine p_one 7 rfl (by kernel_rfl) ?_
          refine t_yes rfl rfl rfl ?_
          refine t_call Try.call39 (rLeft hS (by repeat first | exact .here _ _ | assumption | apply Pick.there)) rfl ?_
          rintro e w ⟨rfl, hS⟩
          refine ⟨_, rfl, ?_⟩
          refine t_nil ?_
          refine ⟨.inr ⟨_, hS⟩, ?_⟩
          refine p_yes hap hsel 13 rfl rfl ⟨_, hS⟩ rfl rfl rfl (fun w hI => (q_cast (v' := .bool true) (q_eql rfl rfl) (by simp))) ?_
          refine p_q hap hsel 14 rfl rfl ⟨_, hS⟩ (fun w hI => q_pick_t rfl rfl) ?_
          refine p_q hap hsel 15 rfl rfl ⟨_, hS⟩ (fun w hI => q_mv (.bool _) rfl) ?_
          refine p_yes hap hsel 16 rfl rfl ⟨_, hS⟩ rfl rfl rfl (fun w hI => q_mv (.pointer _) rfl) ?_
          refine p_yes hap hsel 18 rfl rfl ⟨_, hS⟩ rfl rfl rfl (fun w hI => q_mv (.pointer _) rfl) ?_
          refine p_yes hap hsel 19 rfl rfl ⟨_, hS⟩ rfl rfl rfl (fun w hI => q_nilCheck rfl) ?_
          refine p_yes hap hsel 20 rfl rfl ⟨_, hS⟩ rfl rfl rfl (fun w hI => q_fieldAddr 1 Try.runUnderlying87 rfl Try.sizeOf4 (by decide) rfl rfl) ?_
          refine p_two 17 21 rfl rfl (by kernel_rfl) ?_ ?_
          ·
            refine t_yes rfl rfl rfl ?_
            refine t_call Try.call40 (rBad hS (by repeat first | exact .here _ _ | assumption | apply Pick.there)) rfl ?_
            rintro e w ⟨rfl, hS⟩
            refine ⟨_, rfl, ?_⟩
            refine t_nil ?_
            refine ⟨.inr ⟨_, hS⟩, ?_⟩
            refine p_one 21 rfl (by kernel_rfl) ?_
            refine t_yes rfl rfl rfl ?_
            refine t_q (q_load1 Try.isAgg4 rfl (hS.cell (by repeat first | exact .here _ _ | assumption | apply Pick.there) rfl)) ?_
            refine t_nil ?_
            refine ⟨.inr ⟨_, hS⟩, ?_⟩
            refine p_yes hap hsel 22 rfl rfl ⟨_, hS⟩ rfl rfl rfl (fun w hI => (q_cast (v' := .bool true) (q_eql_bool Try.runUnderlying4 rfl rfl) (by simp))) ?_
            refine p_q hap hsel 23 rfl rfl ⟨_, hS⟩ (fun w hI => q_pick_t rfl rfl) ?_
            refine p_q hap hsel 24 rfl rfl ⟨_, hS⟩ (fun w hI => q_mv (.bool _) rfl) ?_
            refine p_one 25 rfl (by kernel_rfl) ?_
            refine t_yes rfl rfl rfl ?_
            refine t_call Try.call16 (vlives_calls) rfl ?_
            rintro e w ⟨rfl, hT⟩
            refine ⟨_, rfl, ?_⟩
            replace hS := hS.after hT
            refine t_nil ?_
            refine ⟨.inr ⟨_, hS⟩, ?_⟩
            refine p_q hap hsel 26 rfl rfl ⟨_, hS⟩ (fun w hI => q_pick_t rfl rfl) ?_
            refine p_q hap hsel 27 rfl rfl ⟨_, hS⟩ (fun w hI => q_as (.bool _) rfl) ?_
            refine p_end (by kernel_rfl) ?_
            refine c_ret ?_
            refine r_one rfl rfl ?_
            exact ⟨rfl, hS.nil⟩
          ·
            refine t_yes rfl rfl rfl ?_
            refine t_q (q_load1 Try.isAgg4 rfl (hS.cell (by repeat first | exact .here _ _ | assumption | apply Pick.there) rfl)) ?_
            refine t_nil ?_
            refine ⟨.inr ⟨_, hS⟩, ?_⟩
            refine p_one 17 rfl (by kernel_rfl) ?_
            refine t_yes rfl rfl rfl ?_
            refine t_call Try.call40 (rBad hS (by repeat first | exact .here _ _ | assumption | apply Pick.there)) rfl ?_
            rintro e w ⟨rfl, hS⟩
            refine ⟨_, rfl, ?_⟩
            refine t_nil ?_
            refine ⟨.inr ⟨_, hS⟩, ?_⟩
            refine p_yes hap hsel 22 rfl rfl ⟨_, hS⟩ rfl rfl rfl (fun w hI => (q_cast (v' := .bool true) (q_eql_bool Try.runUnderlying4 rfl rfl) (by simp))) ?_
            refine p_q hap hsel 23 rfl rfl ⟨_, hS⟩ (fun w hI => q_pick_t rfl rfl) ?_
            refine p_q hap hsel 24 rfl rfl ⟨_, hS⟩ (fun w hI => q_mv (.bool _) rfl) ?_
            refine p_one 25 rfl (by kernel_rfl) ?_
            refine t_yes rfl rfl rfl ?_
            refine t_call Try.call16 (vlives_calls) rfl ?_
            rintro e w ⟨rfl, hT⟩
            refine ⟨_, rfl, ?_⟩
            replace hS := hS.after hT
            refine t_nil ?_
            refine ⟨.inr ⟨_, hS⟩, ?_⟩
            refine p_q hap hsel 26 rfl rfl ⟨_, hS⟩ (fun w hI => q_pick_t rfl rfl) ?_
            refine p_q hap hsel 27 rfl rfl ⟨_, hS⟩ (fun w hI => q_as (.bool _) rfl) ?_
            refine p_end (by kernel_rfl) ?_
            refine c_ret ?_
            refine r_one rfl rfl ?_
            exact ⟨rfl, hS.nil⟩
end Go.Proofs.Ytmgobaojioaioaa
