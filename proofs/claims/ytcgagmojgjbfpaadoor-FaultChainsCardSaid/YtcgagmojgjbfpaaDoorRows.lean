/-
  NARROWER THAN 'FOR EVERY INPUT', by the rows' own cells (each row's printed sentence says how): FaultChains: laid · FaultFinds: laid · FaultNobody: laid · RulesCheck: laid · RulesFit: laid · RulesSame: laid · RulesWrite: laid · RulesRead: laid.
  DERIVED. THE GIVEN ROWS OF THIS SEAT. 8 by the template 'for every input the law returns true; each argument reads behind the call as it read before'; 0 by the template 'total and deterministic' (their statements: YtcgagmojgjbfpaaDoorTotals.lean).
  GIVEN WITH THE SEED: the statements are not yours to turn. If you find one false, say at which input.
  Laid BY PROGRAM, IN A SANDBOX (cutbox-rows.mjs): the forced cells as the released guide's own fill.sh prints them over the translation 43ba707a9da54717… (all of the seat's roots in one cut). By AI agents, Wed Nov 11 2026. No macro, syntax, notation, axiom, sorry.
-/
import Derived.Test.YtcgagmojgjbfpaaDoorChecked
import GoSem.Claim
import GoSem.ClaimJoined
import GoSem.ClaimMapViews
import Derived.JoinedTies
import Derived.KernelRfl
namespace Go.Proofs.YtcgagmojgjbfpaaDoor
/- THE CELL 'sum', in the pinned program and in every row, IS THE sha256 OF THE DUMP (.gsa) THAT YtcgagmojgjbfpaaDoorProg.lean LOADS. Nothing in Lean hashes anything: it is a label: what it is worth is what the hold of that sum in a sandbox is worth. -/
noncomputable def Tryd.pinned : Pinned := { name := "ytcgagmojgjbfpaadoor", sum := "43ba707a9da547179fb12eba54eae8a12f17a47bdc68d9eb3622be59546c5d1c", checked := Tryd.checked }
namespace Rows
def none {H : Type} : Left H := { results := [], args := [] }

/- WHAT THE LISTED PACKAGE-LEVEL VARIABLES READ AS WHEN THE CALL BEGINS. Each datum BY PROGRAM (the guide's laid-datum.mjs) off the statement by which the dump's own 'gosem.cut.vars' lays the variable. In a bare row this is a premise. The card (YtcgagmojgjbfpaaDoorCards.lean) ties it to the program's text. -/
def laid_errors_errorType {H : Type} : DataW H := .iface "internal/reflectlite.rtype" (.agg [.ptr (.lit (.string [101, 114, 114, 111, 114]))])

/-- 'jobberlaw04.FaultChains': WHATEVER THE INPUT: true; the input reads as it did. -/
def faultChainsSpec : ChangeSpec := { name := "faultChains", fn := fun _ => fun
  | [d1, d2, d3] => { results := [.lit (.bool true)], args := [d1, d2, d3] }
  | _ => none }
def faultChainsRow : OpenClaim := { program := "ytcgagmojgjbfpaadoor", sum := "43ba707a9da547179fb12eba54eae8a12f17a47bdc68d9eb3622be59546c5d1c", func := "jobber/jobberlaw04.FaultChains", spec := "faultChains", inPlace := ["internal/reflectlite.ValueOf", "(internal/reflectlite.Value).Type", "(internal/reflectlite.Value).IsNil", "internal/reflectlite.TypeOf", "(internal/reflectlite.Value).Elem", "(internal/reflectlite.Value).Set"], unfollowed := true, recurses := true, named := ["errors.errorType"], apart := false, laid := [("errors.errorType", laid_errors_errorType)] }
def FaultChainsSaid : Prop := faultChainsRow.holds Tryd.pinned (OpenSpec.ofChange faultChainsSpec)

/-- ITS FALSE NEIGHBOUR: 'it returns false'. Refute it at one input. -/
def faultChainsWrong : ChangeSpec := { name := "faultChains", fn := fun _ => fun
  | [d1, d2, d3] => { results := [.lit (.bool false)], args := [d1, d2, d3] }
  | _ => none }
def FaultChainsWrongFalsely : Prop := faultChainsRow.holds Tryd.pinned (OpenSpec.ofChange faultChainsWrong)

/-- 'jobberlaw04.FaultFinds': WHATEVER THE INPUT: true; the input reads as it did. -/
def faultFindsSpec : ChangeSpec := { name := "faultFinds", fn := fun _ => fun
  | [d1, d2, d3] => { results := [.lit (.bool true)], args := [d1, d2, d3] }
  | _ => none }
def faultFindsRow : OpenClaim := { program := "ytcgagmojgjbfpaadoor", sum := "43ba707a9da547179fb12eba54eae8a12f17a47bdc68d9eb3622be59546c5d1c", func := "jobber/jobberlaw04.FaultFinds", spec := "faultFinds", inPlace := ["internal/reflectlite.TypeOf", "internal/reflectlite.ValueOf", "(internal/reflectlite.Value).Type", "(internal/reflectlite.Value).IsNil", "(internal/reflectlite.Value).Elem", "(internal/reflectlite.Value).Set"], unfollowed := true, recurses := true, named := ["errors.errorType"], apart := false, laid := [("errors.errorType", laid_errors_errorType)] }
def FaultFindsSaid : Prop := faultFindsRow.holds Tryd.pinned (OpenSpec.ofChange faultFindsSpec)

/-- ITS FALSE NEIGHBOUR: 'it returns false'. Refute it at one input. -/
def faultFindsWrong : ChangeSpec := { name := "faultFinds", fn := fun _ => fun
  | [d1, d2, d3] => { results := [.lit (.bool false)], args := [d1, d2, d3] }
  | _ => none }
def FaultFindsWrongFalsely : Prop := faultFindsRow.holds Tryd.pinned (OpenSpec.ofChange faultFindsWrong)

/-- 'jobberlaw04.FaultNobody': WHATEVER THE INPUT: true; the input reads as it did. -/
def faultNobodySpec : ChangeSpec := { name := "faultNobody", fn := fun _ => fun
  | [d] => { results := [.lit (.bool true)], args := [d] }
  | _ => none }
def faultNobodyRow : OpenClaim := { program := "ytcgagmojgjbfpaadoor", sum := "43ba707a9da547179fb12eba54eae8a12f17a47bdc68d9eb3622be59546c5d1c", func := "jobber/jobberlaw04.FaultNobody", spec := "faultNobody", inPlace := ["internal/reflectlite.ValueOf", "(internal/reflectlite.Value).Type", "(internal/reflectlite.Value).IsNil", "internal/reflectlite.TypeOf", "(internal/reflectlite.Value).Elem", "(internal/reflectlite.Value).Set"], unfollowed := true, recurses := true, named := ["errors.errorType"], apart := false, laid := [("errors.errorType", laid_errors_errorType)] }
def FaultNobodySaid : Prop := faultNobodyRow.holds Tryd.pinned (OpenSpec.ofChange faultNobodySpec)

/-- ITS FALSE NEIGHBOUR: 'it returns false'. Refute it at one input. -/
def faultNobodyWrong : ChangeSpec := { name := "faultNobody", fn := fun _ => fun
  | [d] => { results := [.lit (.bool false)], args := [d] }
  | _ => none }
def FaultNobodyWrongFalsely : Prop := faultNobodyRow.holds Tryd.pinned (OpenSpec.ofChange faultNobodyWrong)

/-- 'jobberlaw09.RulesCheck': WHATEVER THE INPUT: true; the input reads as it did. -/
def rulesCheckSpec : ChangeSpec := { name := "rulesCheck", fn := fun _ => fun
  | [d] => { results := [.lit (.bool true)], args := [d] }
  | _ => none }
def rulesCheckRow : OpenClaim := { program := "ytcgagmojgjbfpaadoor", sum := "43ba707a9da547179fb12eba54eae8a12f17a47bdc68d9eb3622be59546c5d1c", func := "jobber/jobberlaw09.RulesCheck", spec := "rulesCheck", inPlace := ["internal/reflectlite.ValueOf", "(internal/reflectlite.Value).Type", "(internal/reflectlite.Value).IsNil", "internal/reflectlite.TypeOf", "(internal/reflectlite.Value).Elem", "(internal/reflectlite.Value).Set"], unfollowed := true, recurses := true, named := ["errors.errorType"], apart := false, laid := [("errors.errorType", laid_errors_errorType)] }
def RulesCheckSaid : Prop := rulesCheckRow.holds Tryd.pinned (OpenSpec.ofChange rulesCheckSpec)

/-- ITS FALSE NEIGHBOUR: 'it returns false'. Refute it at one input. -/
def rulesCheckWrong : ChangeSpec := { name := "rulesCheck", fn := fun _ => fun
  | [d] => { results := [.lit (.bool false)], args := [d] }
  | _ => none }
def RulesCheckWrongFalsely : Prop := rulesCheckRow.holds Tryd.pinned (OpenSpec.ofChange rulesCheckWrong)

/-- 'jobberlaw09.RulesFit': WHATEVER THE INPUT: true; the input reads as it did. -/
def rulesFitSpec : ChangeSpec := { name := "rulesFit", fn := fun _ => fun
  | [d1, d2, d3, d4, d5, d6] => { results := [.lit (.bool true)], args := [d1, d2, d3, d4, d5, d6] }
  | _ => none }
def rulesFitRow : OpenClaim := { program := "ytcgagmojgjbfpaadoor", sum := "43ba707a9da547179fb12eba54eae8a12f17a47bdc68d9eb3622be59546c5d1c", func := "jobber/jobberlaw09.RulesFit", spec := "rulesFit", inPlace := ["internal/reflectlite.ValueOf", "(internal/reflectlite.Value).Type", "(internal/reflectlite.Value).IsNil", "internal/reflectlite.TypeOf", "(internal/reflectlite.Value).Elem", "(internal/reflectlite.Value).Set"], unfollowed := true, recurses := true, named := ["errors.errorType"], apart := false, laid := [("errors.errorType", laid_errors_errorType)] }
def RulesFitSaid : Prop := rulesFitRow.holds Tryd.pinned (OpenSpec.ofChange rulesFitSpec)

/-- ITS FALSE NEIGHBOUR: 'it returns false'. Refute it at one input. -/
def rulesFitWrong : ChangeSpec := { name := "rulesFit", fn := fun _ => fun
  | [d1, d2, d3, d4, d5, d6] => { results := [.lit (.bool false)], args := [d1, d2, d3, d4, d5, d6] }
  | _ => none }
def RulesFitWrongFalsely : Prop := rulesFitRow.holds Tryd.pinned (OpenSpec.ofChange rulesFitWrong)

/-- 'jobberlaw09.RulesSame': WHATEVER THE INPUT: true; the input reads as it did. -/
def rulesSameSpec : ChangeSpec := { name := "rulesSame", fn := fun _ => fun
  | [d1, d2] => { results := [.lit (.bool true)], args := [d1, d2] }
  | _ => none }
def rulesSameRow : OpenClaim := { program := "ytcgagmojgjbfpaadoor", sum := "43ba707a9da547179fb12eba54eae8a12f17a47bdc68d9eb3622be59546c5d1c", func := "jobber/jobberlaw09.RulesSame", spec := "rulesSame", inPlace := ["internal/reflectlite.ValueOf", "(internal/reflectlite.Value).Type", "(internal/reflectlite.Value).IsNil", "internal/reflectlite.TypeOf", "(internal/reflectlite.Value).Elem", "(internal/reflectlite.Value).Set"], unfollowed := true, recurses := true, named := ["errors.errorType"], apart := false, laid := [("errors.errorType", laid_errors_errorType)] }
def RulesSameSaid : Prop := rulesSameRow.holds Tryd.pinned (OpenSpec.ofChange rulesSameSpec)

/-- ITS FALSE NEIGHBOUR: 'it returns false'. Refute it at one input. -/
def rulesSameWrong : ChangeSpec := { name := "rulesSame", fn := fun _ => fun
  | [d1, d2] => { results := [.lit (.bool false)], args := [d1, d2] }
  | _ => none }
def RulesSameWrongFalsely : Prop := rulesSameRow.holds Tryd.pinned (OpenSpec.ofChange rulesSameWrong)

/-- 'jobberlaw09.RulesWrite': WHATEVER THE INPUT: true; the input reads as it did. -/
def rulesWriteSpec : ChangeSpec := { name := "rulesWrite", fn := fun _ => fun
  | [d1, d2] => { results := [.lit (.bool true)], args := [d1, d2] }
  | _ => none }
def rulesWriteRow : OpenClaim := { program := "ytcgagmojgjbfpaadoor", sum := "43ba707a9da547179fb12eba54eae8a12f17a47bdc68d9eb3622be59546c5d1c", func := "jobber/jobberlaw09.RulesWrite", spec := "rulesWrite", inPlace := ["internal/reflectlite.ValueOf", "(internal/reflectlite.Value).Type", "(internal/reflectlite.Value).IsNil", "internal/reflectlite.TypeOf", "(internal/reflectlite.Value).Elem", "(internal/reflectlite.Value).Set"], unfollowed := true, recurses := true, named := ["errors.errorType"], apart := false, laid := [("errors.errorType", laid_errors_errorType)] }
def RulesWriteSaid : Prop := rulesWriteRow.holds Tryd.pinned (OpenSpec.ofChange rulesWriteSpec)

/-- ITS FALSE NEIGHBOUR: 'it returns false'. Refute it at one input. -/
def rulesWriteWrong : ChangeSpec := { name := "rulesWrite", fn := fun _ => fun
  | [d1, d2] => { results := [.lit (.bool false)], args := [d1, d2] }
  | _ => none }
def RulesWriteWrongFalsely : Prop := rulesWriteRow.holds Tryd.pinned (OpenSpec.ofChange rulesWriteWrong)

/-- 'jobberlaw09.RulesRead': WHATEVER THE INPUT: true; the input reads as it did. -/
def rulesReadSpec : ChangeSpec := { name := "rulesRead", fn := fun _ => fun
  | [d] => { results := [.lit (.bool true)], args := [d] }
  | _ => none }
def rulesReadRow : OpenClaim := { program := "ytcgagmojgjbfpaadoor", sum := "43ba707a9da547179fb12eba54eae8a12f17a47bdc68d9eb3622be59546c5d1c", func := "jobber/jobberlaw09.RulesRead", spec := "rulesRead", inPlace := ["internal/reflectlite.ValueOf", "(internal/reflectlite.Value).Type", "(internal/reflectlite.Value).IsNil", "internal/reflectlite.TypeOf", "(internal/reflectlite.Value).Elem", "(internal/reflectlite.Value).Set"], unfollowed := true, recurses := true, named := ["errors.errorType"], apart := false, laid := [("errors.errorType", laid_errors_errorType)] }
def RulesReadSaid : Prop := rulesReadRow.holds Tryd.pinned (OpenSpec.ofChange rulesReadSpec)

/-- ITS FALSE NEIGHBOUR: 'it returns false'. Refute it at one input. -/
def rulesReadWrong : ChangeSpec := { name := "rulesRead", fn := fun _ => fun
  | [d] => { results := [.lit (.bool false)], args := [d] }
  | _ => none }
def RulesReadWrongFalsely : Prop := rulesReadRow.holds Tryd.pinned (OpenSpec.ofChange rulesReadWrong)

/- THE SECOND FORM. 'bulk': how many values and letters a reading holds, each counted each time it is reached (what is shared counts as often as it is met; a slice's spare places count too). A statement '..UptoSaid' is the law's where the arguments, and the package variables that the reading takes, are together of bulk at most 1048576: NARROWER than '..Said'. Prove '..Said' where nothing that the law and all that it calls make is longer than what came in: it says more and counts as full. Else prove '..UptoSaid'. A law counts once. -/
mutual
def uptoBulk {H : Type} : DataW H → Nat
  | .lit (.string bytes) => bytes.length + 1
  | .lit _ => 1
  | .nil => 1
  | .ptr d => uptoBulk d + 1
  | .slice elems spare => uptoBulkAll elems + uptoBulkAll spare + 1
  | .agg parts => uptoBulkAll parts + 1
  | .iface _ d => uptoBulk d + 1
  | .map entries => uptoBulkEntries entries + 1
  | .held _ => 1
def uptoBulkAll {H : Type} : List (DataW H) → Nat
  | [] => 0
  | d :: r => uptoBulk d + uptoBulkAll r
def uptoBulkEntries {H : Type} : List (Lit × DataW H) → Nat
  | [] => 0
  | x :: r => uptoBulkEntry x + uptoBulkEntries r
def uptoBulkEntry {H : Type} : Lit × DataW H → Nat
  | (.string bytes, d) => bytes.length + uptoBulk d + 1
  | (_, d) => uptoBulk d + 1
 end
def uptoSmall : (H : Type) → List (DataW H) → Bool := fun _ ds => decide (uptoBulkAll ds ≤ 1048576)
def OpenSpec.upto (s : _root_.Go.ChangeSpec) : _root_.Go.OpenSpec := { _root_.Go.OpenSpec.ofChange s with cond := some uptoSmall }

/-- 'jobberlaw04.FaultChains', WHERE WHAT IT READS IS OF BULK AT MOST 1048576: true; the input reads as it did. -/
def faultChainsUptoRow : OpenClaim := { program := "ytcgagmojgjbfpaadoor", sum := "43ba707a9da547179fb12eba54eae8a12f17a47bdc68d9eb3622be59546c5d1c", func := "jobber/jobberlaw04.FaultChains", spec := "faultChains", inPlace := ["internal/reflectlite.ValueOf", "(internal/reflectlite.Value).Type", "(internal/reflectlite.Value).IsNil", "internal/reflectlite.TypeOf", "(internal/reflectlite.Value).Elem", "(internal/reflectlite.Value).Set"], unfollowed := true, recurses := true, named := ["errors.errorType"], apart := false, laid := [("errors.errorType", laid_errors_errorType)], narrowed := true }
def FaultChainsUptoSaid : Prop := faultChainsUptoRow.holds Tryd.pinned (OpenSpec.upto faultChainsSpec)

/-- 'jobberlaw04.FaultFinds', WHERE WHAT IT READS IS OF BULK AT MOST 1048576: true; the input reads as it did. -/
def faultFindsUptoRow : OpenClaim := { program := "ytcgagmojgjbfpaadoor", sum := "43ba707a9da547179fb12eba54eae8a12f17a47bdc68d9eb3622be59546c5d1c", func := "jobber/jobberlaw04.FaultFinds", spec := "faultFinds", inPlace := ["internal/reflectlite.TypeOf", "internal/reflectlite.ValueOf", "(internal/reflectlite.Value).Type", "(internal/reflectlite.Value).IsNil", "(internal/reflectlite.Value).Elem", "(internal/reflectlite.Value).Set"], unfollowed := true, recurses := true, named := ["errors.errorType"], apart := false, laid := [("errors.errorType", laid_errors_errorType)], narrowed := true }
def FaultFindsUptoSaid : Prop := faultFindsUptoRow.holds Tryd.pinned (OpenSpec.upto faultFindsSpec)

/-- 'jobberlaw04.FaultNobody', WHERE WHAT IT READS IS OF BULK AT MOST 1048576: true; the input reads as it did. -/
def faultNobodyUptoRow : OpenClaim := { program := "ytcgagmojgjbfpaadoor", sum := "43ba707a9da547179fb12eba54eae8a12f17a47bdc68d9eb3622be59546c5d1c", func := "jobber/jobberlaw04.FaultNobody", spec := "faultNobody", inPlace := ["internal/reflectlite.ValueOf", "(internal/reflectlite.Value).Type", "(internal/reflectlite.Value).IsNil", "internal/reflectlite.TypeOf", "(internal/reflectlite.Value).Elem", "(internal/reflectlite.Value).Set"], unfollowed := true, recurses := true, named := ["errors.errorType"], apart := false, laid := [("errors.errorType", laid_errors_errorType)], narrowed := true }
def FaultNobodyUptoSaid : Prop := faultNobodyUptoRow.holds Tryd.pinned (OpenSpec.upto faultNobodySpec)

/-- 'jobberlaw09.RulesCheck', WHERE WHAT IT READS IS OF BULK AT MOST 1048576: true; the input reads as it did. -/
def rulesCheckUptoRow : OpenClaim := { program := "ytcgagmojgjbfpaadoor", sum := "43ba707a9da547179fb12eba54eae8a12f17a47bdc68d9eb3622be59546c5d1c", func := "jobber/jobberlaw09.RulesCheck", spec := "rulesCheck", inPlace := ["internal/reflectlite.ValueOf", "(internal/reflectlite.Value).Type", "(internal/reflectlite.Value).IsNil", "internal/reflectlite.TypeOf", "(internal/reflectlite.Value).Elem", "(internal/reflectlite.Value).Set"], unfollowed := true, recurses := true, named := ["errors.errorType"], apart := false, laid := [("errors.errorType", laid_errors_errorType)], narrowed := true }
def RulesCheckUptoSaid : Prop := rulesCheckUptoRow.holds Tryd.pinned (OpenSpec.upto rulesCheckSpec)

/-- 'jobberlaw09.RulesFit', WHERE WHAT IT READS IS OF BULK AT MOST 1048576: true; the input reads as it did. -/
def rulesFitUptoRow : OpenClaim := { program := "ytcgagmojgjbfpaadoor", sum := "43ba707a9da547179fb12eba54eae8a12f17a47bdc68d9eb3622be59546c5d1c", func := "jobber/jobberlaw09.RulesFit", spec := "rulesFit", inPlace := ["internal/reflectlite.ValueOf", "(internal/reflectlite.Value).Type", "(internal/reflectlite.Value).IsNil", "internal/reflectlite.TypeOf", "(internal/reflectlite.Value).Elem", "(internal/reflectlite.Value).Set"], unfollowed := true, recurses := true, named := ["errors.errorType"], apart := false, laid := [("errors.errorType", laid_errors_errorType)], narrowed := true }
def RulesFitUptoSaid : Prop := rulesFitUptoRow.holds Tryd.pinned (OpenSpec.upto rulesFitSpec)

/-- 'jobberlaw09.RulesSame', WHERE WHAT IT READS IS OF BULK AT MOST 1048576: true; the input reads as it did. -/
def rulesSameUptoRow : OpenClaim := { program := "ytcgagmojgjbfpaadoor", sum := "43ba707a9da547179fb12eba54eae8a12f17a47bdc68d9eb3622be59546c5d1c", func := "jobber/jobberlaw09.RulesSame", spec := "rulesSame", inPlace := ["internal/reflectlite.ValueOf", "(internal/reflectlite.Value).Type", "(internal/reflectlite.Value).IsNil", "internal/reflectlite.TypeOf", "(internal/reflectlite.Value).Elem", "(internal/reflectlite.Value).Set"], unfollowed := true, recurses := true, named := ["errors.errorType"], apart := false, laid := [("errors.errorType", laid_errors_errorType)], narrowed := true }
def RulesSameUptoSaid : Prop := rulesSameUptoRow.holds Tryd.pinned (OpenSpec.upto rulesSameSpec)

/-- 'jobberlaw09.RulesWrite', WHERE WHAT IT READS IS OF BULK AT MOST 1048576: true; the input reads as it did. -/
def rulesWriteUptoRow : OpenClaim := { program := "ytcgagmojgjbfpaadoor", sum := "43ba707a9da547179fb12eba54eae8a12f17a47bdc68d9eb3622be59546c5d1c", func := "jobber/jobberlaw09.RulesWrite", spec := "rulesWrite", inPlace := ["internal/reflectlite.ValueOf", "(internal/reflectlite.Value).Type", "(internal/reflectlite.Value).IsNil", "internal/reflectlite.TypeOf", "(internal/reflectlite.Value).Elem", "(internal/reflectlite.Value).Set"], unfollowed := true, recurses := true, named := ["errors.errorType"], apart := false, laid := [("errors.errorType", laid_errors_errorType)], narrowed := true }
def RulesWriteUptoSaid : Prop := rulesWriteUptoRow.holds Tryd.pinned (OpenSpec.upto rulesWriteSpec)

/-- 'jobberlaw09.RulesRead', WHERE WHAT IT READS IS OF BULK AT MOST 1048576: true; the input reads as it did. -/
def rulesReadUptoRow : OpenClaim := { program := "ytcgagmojgjbfpaadoor", sum := "43ba707a9da547179fb12eba54eae8a12f17a47bdc68d9eb3622be59546c5d1c", func := "jobber/jobberlaw09.RulesRead", spec := "rulesRead", inPlace := ["internal/reflectlite.ValueOf", "(internal/reflectlite.Value).Type", "(internal/reflectlite.Value).IsNil", "internal/reflectlite.TypeOf", "(internal/reflectlite.Value).Elem", "(internal/reflectlite.Value).Set"], unfollowed := true, recurses := true, named := ["errors.errorType"], apart := false, laid := [("errors.errorType", laid_errors_errorType)], narrowed := true }
def RulesReadUptoSaid : Prop := rulesReadUptoRow.holds Tryd.pinned (OpenSpec.upto rulesReadSpec)

end Rows
end Go.Proofs.YtcgagmojgjbfpaaDoor
