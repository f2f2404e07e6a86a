/-
  DERIVED. GIVEN WITH THE SEED: THE CARDS: each row of YtcgagmojgjbfpaaDoorRows.lean that lists a variable, with what it lists TIED to the program's text (the seventh form; the later family's looks); each row that meets fmt, with fmt's text TOLD by the authors' own Lean function (tested against real Go, not proved from fmt's source: count such statements apart). THE CARD IS WHAT COUNTS. Prove the row's statement (the work); the ties are given (YtcgagmojgjbfpaaDoorTie.lean); close each card by the builder's one call (the guide's Derived/Test/ToyasCard.lean, 'card_holds'). Laid BY PROGRAM, IN A SANDBOX (cutbox-door.mjs). By AI agents, Wed Nov 11 2026. No macro, syntax, notation, axiom, sorry.
-/
import Derived.Test.YtcgagmojgjbfpaaDoorRows
import GoSem.ClaimSeven
namespace Go.Proofs.YtcgagmojgjbfpaaDoor
namespace Rows

/-- THE TIED CARD OF 'jobberlaw04.FaultChains'. -/
def faultChainsCard : Claim7 := { stood := { row := faultChainsRow, standIns := [], harness := (true, "5d57dd9daa0d2f45124048d8211a23443d8eff06df87f613d32eb801b5e11e89"), looks := true }, kinds := [], alts := [], laidByText := true, laidKinds := [.handle], laidTests := true, laidLooks := .later }
def FaultChainsCardSaid : Prop := Claim7.holds Tryd.pinned (.plain (OpenSpec.ofChange faultChainsSpec)) faultChainsCard

/-- THE TIED CARD OF 'jobberlaw04.FaultFinds'. -/
def faultFindsCard : Claim7 := { stood := { row := faultFindsRow, standIns := [], harness := (true, "5d57dd9daa0d2f45124048d8211a23443d8eff06df87f613d32eb801b5e11e89"), looks := true }, kinds := [], alts := [], laidByText := true, laidKinds := [.handle], laidTests := true, laidLooks := .later }
def FaultFindsCardSaid : Prop := Claim7.holds Tryd.pinned (.plain (OpenSpec.ofChange faultFindsSpec)) faultFindsCard

/-- THE TIED CARD OF 'jobberlaw04.FaultNobody'. -/
def faultNobodyCard : Claim7 := { stood := { row := faultNobodyRow, standIns := [], harness := (true, "5d57dd9daa0d2f45124048d8211a23443d8eff06df87f613d32eb801b5e11e89"), looks := true }, kinds := [], alts := [], laidByText := true, laidKinds := [.handle], laidTests := true, laidLooks := .later }
def FaultNobodyCardSaid : Prop := Claim7.holds Tryd.pinned (.plain (OpenSpec.ofChange faultNobodySpec)) faultNobodyCard

/-- THE TIED CARD OF 'jobberlaw09.RulesCheck'. -/
def rulesCheckCard : Claim7 := { stood := { row := rulesCheckRow, standIns := [], harness := (true, "5d57dd9daa0d2f45124048d8211a23443d8eff06df87f613d32eb801b5e11e89"), looks := true }, kinds := [], alts := [], laidByText := true, laidKinds := [.handle], laidTests := true, laidLooks := .later }
def RulesCheckCardSaid : Prop := Claim7.holds Tryd.pinned (.plain (OpenSpec.ofChange rulesCheckSpec)) rulesCheckCard

/-- THE TIED CARD OF 'jobberlaw09.RulesFit'. -/
def rulesFitCard : Claim7 := { stood := { row := rulesFitRow, standIns := [], harness := (true, "5d57dd9daa0d2f45124048d8211a23443d8eff06df87f613d32eb801b5e11e89"), looks := true }, kinds := [], alts := [], laidByText := true, laidKinds := [.handle], laidTests := true, laidLooks := .later }
def RulesFitCardSaid : Prop := Claim7.holds Tryd.pinned (.plain (OpenSpec.ofChange rulesFitSpec)) rulesFitCard

/-- THE TIED CARD OF 'jobberlaw09.RulesSame'. -/
def rulesSameCard : Claim7 := { stood := { row := rulesSameRow, standIns := [], harness := (true, "5d57dd9daa0d2f45124048d8211a23443d8eff06df87f613d32eb801b5e11e89"), looks := true }, kinds := [], alts := [], laidByText := true, laidKinds := [.handle], laidTests := true, laidLooks := .later }
def RulesSameCardSaid : Prop := Claim7.holds Tryd.pinned (.plain (OpenSpec.ofChange rulesSameSpec)) rulesSameCard

/-- THE TIED CARD OF 'jobberlaw09.RulesWrite'. -/
def rulesWriteCard : Claim7 := { stood := { row := rulesWriteRow, standIns := [], harness := (true, "5d57dd9daa0d2f45124048d8211a23443d8eff06df87f613d32eb801b5e11e89"), looks := true }, kinds := [], alts := [], laidByText := true, laidKinds := [.handle], laidTests := true, laidLooks := .later }
def RulesWriteCardSaid : Prop := Claim7.holds Tryd.pinned (.plain (OpenSpec.ofChange rulesWriteSpec)) rulesWriteCard

/-- THE TIED CARD OF 'jobberlaw09.RulesRead'. -/
def rulesReadCard : Claim7 := { stood := { row := rulesReadRow, standIns := [], harness := (true, "5d57dd9daa0d2f45124048d8211a23443d8eff06df87f613d32eb801b5e11e89"), looks := true }, kinds := [], alts := [], laidByText := true, laidKinds := [.handle], laidTests := true, laidLooks := .later }
def RulesReadCardSaid : Prop := Claim7.holds Tryd.pinned (.plain (OpenSpec.ofChange rulesReadSpec)) rulesReadCard

/-- THE SECOND FORM's CARD OF 'jobberlaw04.FaultChains'. -/
def faultChainsUptoCard : Claim7 := { stood := { row := faultChainsUptoRow, standIns := [], harness := (true, "5d57dd9daa0d2f45124048d8211a23443d8eff06df87f613d32eb801b5e11e89"), looks := true }, kinds := [], alts := [], laidByText := true, laidKinds := [.handle], laidTests := true, laidLooks := .later }
def FaultChainsUptoCardSaid : Prop := Claim7.holds Tryd.pinned (.plain (OpenSpec.upto faultChainsSpec)) faultChainsUptoCard

/-- THE SECOND FORM's CARD OF 'jobberlaw04.FaultFinds'. -/
def faultFindsUptoCard : Claim7 := { stood := { row := faultFindsUptoRow, standIns := [], harness := (true, "5d57dd9daa0d2f45124048d8211a23443d8eff06df87f613d32eb801b5e11e89"), looks := true }, kinds := [], alts := [], laidByText := true, laidKinds := [.handle], laidTests := true, laidLooks := .later }
def FaultFindsUptoCardSaid : Prop := Claim7.holds Tryd.pinned (.plain (OpenSpec.upto faultFindsSpec)) faultFindsUptoCard

/-- THE SECOND FORM's CARD OF 'jobberlaw04.FaultNobody'. -/
def faultNobodyUptoCard : Claim7 := { stood := { row := faultNobodyUptoRow, standIns := [], harness := (true, "5d57dd9daa0d2f45124048d8211a23443d8eff06df87f613d32eb801b5e11e89"), looks := true }, kinds := [], alts := [], laidByText := true, laidKinds := [.handle], laidTests := true, laidLooks := .later }
def FaultNobodyUptoCardSaid : Prop := Claim7.holds Tryd.pinned (.plain (OpenSpec.upto faultNobodySpec)) faultNobodyUptoCard

/-- THE SECOND FORM's CARD OF 'jobberlaw09.RulesCheck'. -/
def rulesCheckUptoCard : Claim7 := { stood := { row := rulesCheckUptoRow, standIns := [], harness := (true, "5d57dd9daa0d2f45124048d8211a23443d8eff06df87f613d32eb801b5e11e89"), looks := true }, kinds := [], alts := [], laidByText := true, laidKinds := [.handle], laidTests := true, laidLooks := .later }
def RulesCheckUptoCardSaid : Prop := Claim7.holds Tryd.pinned (.plain (OpenSpec.upto rulesCheckSpec)) rulesCheckUptoCard

/-- THE SECOND FORM's CARD OF 'jobberlaw09.RulesFit'. -/
def rulesFitUptoCard : Claim7 := { stood := { row := rulesFitUptoRow, standIns := [], harness := (true, "5d57dd9daa0d2f45124048d8211a23443d8eff06df87f613d32eb801b5e11e89"), looks := true }, kinds := [], alts := [], laidByText := true, laidKinds := [.handle], laidTests := true, laidLooks := .later }
def RulesFitUptoCardSaid : Prop := Claim7.holds Tryd.pinned (.plain (OpenSpec.upto rulesFitSpec)) rulesFitUptoCard

/-- THE SECOND FORM's CARD OF 'jobberlaw09.RulesSame'. -/
def rulesSameUptoCard : Claim7 := { stood := { row := rulesSameUptoRow, standIns := [], harness := (true, "5d57dd9daa0d2f45124048d8211a23443d8eff06df87f613d32eb801b5e11e89"), looks := true }, kinds := [], alts := [], laidByText := true, laidKinds := [.handle], laidTests := true, laidLooks := .later }
def RulesSameUptoCardSaid : Prop := Claim7.holds Tryd.pinned (.plain (OpenSpec.upto rulesSameSpec)) rulesSameUptoCard

/-- THE SECOND FORM's CARD OF 'jobberlaw09.RulesWrite'. -/
def rulesWriteUptoCard : Claim7 := { stood := { row := rulesWriteUptoRow, standIns := [], harness := (true, "5d57dd9daa0d2f45124048d8211a23443d8eff06df87f613d32eb801b5e11e89"), looks := true }, kinds := [], alts := [], laidByText := true, laidKinds := [.handle], laidTests := true, laidLooks := .later }
def RulesWriteUptoCardSaid : Prop := Claim7.holds Tryd.pinned (.plain (OpenSpec.upto rulesWriteSpec)) rulesWriteUptoCard

/-- THE SECOND FORM's CARD OF 'jobberlaw09.RulesRead'. -/
def rulesReadUptoCard : Claim7 := { stood := { row := rulesReadUptoRow, standIns := [], harness := (true, "5d57dd9daa0d2f45124048d8211a23443d8eff06df87f613d32eb801b5e11e89"), looks := true }, kinds := [], alts := [], laidByText := true, laidKinds := [.handle], laidTests := true, laidLooks := .later }
def RulesReadUptoCardSaid : Prop := Claim7.holds Tryd.pinned (.plain (OpenSpec.upto rulesReadSpec)) rulesReadUptoCard
end Rows
end Go.Proofs.YtcgagmojgjbfpaaDoor
