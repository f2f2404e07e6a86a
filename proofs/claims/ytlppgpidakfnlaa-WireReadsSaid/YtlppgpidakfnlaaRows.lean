/-
  No cell of these rows narrows 'for every input' (looked for: loops, veiled, ifaces, maps, wideKeys, modest, calm, conditions, laid).
  DERIVED. THE GIVEN ROWS OF THIS SEAT. 16 by the template 'for every input the law returns true; each argument reads behind the call as it read before'; 0 by the template 'total and deterministic' (their statements: YtlppgpidakfnlaaTotals.lean).
  GIVEN WITH THE SEED: the statements are not yours to turn. If you find one false, say at which input.
  Laid BY PROGRAM, IN A SANDBOX (cutbox-rows.mjs): the forced cells as the released guide's own fill.sh prints them over the translation d5e3afbb6539e3ab… (all of the seat's roots in one cut). By AI agents, Wed Nov 11 2026. No macro, syntax, notation, axiom, sorry.
-/
import Derived.Test.YtlppgpidakfnlaaChecked
import GoSem.Claim
import GoSem.ClaimJoined
import GoSem.ClaimMapViews
import Derived.JoinedTies
import Derived.KernelRfl
namespace Go.Proofs.Ytlppgpidakfnlaa
/- THE CELL 'sum', in the pinned program and in every row, IS THE sha256 OF THE DUMP (.gsa) THAT YtlppgpidakfnlaaProg.lean LOADS. Nothing in Lean hashes anything: it is a label: what it is worth is what the hold of that sum in a sandbox is worth. -/
noncomputable def Try.pinned : Pinned := { name := "ytlppgpidakfnlaa", sum := "d5e3afbb6539e3ab47061ef1346ee635eea1707cef3bc7bd328408447cd5fb11", checked := Try.checked }
namespace Rows
def none {H : Type} : Left H := { results := [], args := [] }

/-- 'jobberlaw03.ParcelTorn': WHATEVER THE INPUT: true; the input reads as it did. -/
def parcelTornSpec : ChangeSpec := { name := "parcelTorn", fn := fun _ => fun
  | [d1, d2] => { results := [.lit (.bool true)], args := [d1, d2] }
  | _ => none }
def parcelTornRow : OpenClaim := { program := "ytlppgpidakfnlaa", sum := "d5e3afbb6539e3ab47061ef1346ee635eea1707cef3bc7bd328408447cd5fb11", func := "jobber/jobberlaw03.ParcelTorn", spec := "parcelTorn", unfollowed := true, recurses := true, apart := false }
def ParcelTornSaid : Prop := parcelTornRow.holds Try.pinned (OpenSpec.ofChange parcelTornSpec)

/-- ITS FALSE NEIGHBOUR: 'it returns false'. Refute it at one input. -/
def parcelTornWrong : ChangeSpec := { name := "parcelTorn", fn := fun _ => fun
  | [d1, d2] => { results := [.lit (.bool false)], args := [d1, d2] }
  | _ => none }
def ParcelTornWrongFalsely : Prop := parcelTornRow.holds Try.pinned (OpenSpec.ofChange parcelTornWrong)

/-- 'jobberlaw03.ParcelRows': WHATEVER THE INPUT: true; the input reads as it did. -/
def parcelRowsSpec : ChangeSpec := { name := "parcelRows", fn := fun _ => fun
  | [d] => { results := [.lit (.bool true)], args := [d] }
  | _ => none }
def parcelRowsRow : OpenClaim := { program := "ytlppgpidakfnlaa", sum := "d5e3afbb6539e3ab47061ef1346ee635eea1707cef3bc7bd328408447cd5fb11", func := "jobber/jobberlaw03.ParcelRows", spec := "parcelRows", unfollowed := true, recurses := true, apart := false }
def ParcelRowsSaid : Prop := parcelRowsRow.holds Try.pinned (OpenSpec.ofChange parcelRowsSpec)

/-- ITS FALSE NEIGHBOUR: 'it returns false'. Refute it at one input. -/
def parcelRowsWrong : ChangeSpec := { name := "parcelRows", fn := fun _ => fun
  | [d] => { results := [.lit (.bool false)], args := [d] }
  | _ => none }
def ParcelRowsWrongFalsely : Prop := parcelRowsRow.holds Try.pinned (OpenSpec.ofChange parcelRowsWrong)

/-- 'jobberlaw34.ArchiveWrites': WHATEVER THE INPUT: true; the input reads as it did. -/
def archiveWritesSpec : ChangeSpec := { name := "archiveWrites", fn := fun _ => fun
  | [d1, d2] => { results := [.lit (.bool true)], args := [d1, d2] }
  | _ => none }
def archiveWritesRow : OpenClaim := { program := "ytlppgpidakfnlaa", sum := "d5e3afbb6539e3ab47061ef1346ee635eea1707cef3bc7bd328408447cd5fb11", func := "jobber/jobberlaw34.ArchiveWrites", spec := "archiveWrites", unfollowed := true, recurses := true, apart := false }
def ArchiveWritesSaid : Prop := archiveWritesRow.holds Try.pinned (OpenSpec.ofChange archiveWritesSpec)

/-- ITS FALSE NEIGHBOUR: 'it returns false'. Refute it at one input. -/
def archiveWritesWrong : ChangeSpec := { name := "archiveWrites", fn := fun _ => fun
  | [d1, d2] => { results := [.lit (.bool false)], args := [d1, d2] }
  | _ => none }
def ArchiveWritesWrongFalsely : Prop := archiveWritesRow.holds Try.pinned (OpenSpec.ofChange archiveWritesWrong)

/-- 'jobberlaw34.ArchiveLong': WHATEVER THE INPUT: true; the input reads as it did. -/
def archiveLongSpec : ChangeSpec := { name := "archiveLong", fn := fun _ => fun
  | [d] => { results := [.lit (.bool true)], args := [d] }
  | _ => none }
def archiveLongRow : OpenClaim := { program := "ytlppgpidakfnlaa", sum := "d5e3afbb6539e3ab47061ef1346ee635eea1707cef3bc7bd328408447cd5fb11", func := "jobber/jobberlaw34.ArchiveLong", spec := "archiveLong", unfollowed := true, recurses := true, apart := false }
def ArchiveLongSaid : Prop := archiveLongRow.holds Try.pinned (OpenSpec.ofChange archiveLongSpec)

/-- ITS FALSE NEIGHBOUR: 'it returns false'. Refute it at one input. -/
def archiveLongWrong : ChangeSpec := { name := "archiveLong", fn := fun _ => fun
  | [d] => { results := [.lit (.bool false)], args := [d] }
  | _ => none }
def ArchiveLongWrongFalsely : Prop := archiveLongRow.holds Try.pinned (OpenSpec.ofChange archiveLongWrong)

/-- 'jobberlaw34.ArchivePlays': WHATEVER THE INPUT: true; the input reads as it did. -/
def archivePlaysSpec : ChangeSpec := { name := "archivePlays", fn := fun _ => fun
  | [d] => { results := [.lit (.bool true)], args := [d] }
  | _ => none }
def archivePlaysRow : OpenClaim := { program := "ytlppgpidakfnlaa", sum := "d5e3afbb6539e3ab47061ef1346ee635eea1707cef3bc7bd328408447cd5fb11", func := "jobber/jobberlaw34.ArchivePlays", spec := "archivePlays", unfollowed := true, recurses := true, apart := false }
def ArchivePlaysSaid : Prop := archivePlaysRow.holds Try.pinned (OpenSpec.ofChange archivePlaysSpec)

/-- ITS FALSE NEIGHBOUR: 'it returns false'. Refute it at one input. -/
def archivePlaysWrong : ChangeSpec := { name := "archivePlays", fn := fun _ => fun
  | [d] => { results := [.lit (.bool false)], args := [d] }
  | _ => none }
def ArchivePlaysWrongFalsely : Prop := archivePlaysRow.holds Try.pinned (OpenSpec.ofChange archivePlaysWrong)

/-- 'jobberlaw34.ArchiveTells': WHATEVER THE INPUT: true; the input reads as it did. -/
def archiveTellsSpec : ChangeSpec := { name := "archiveTells", fn := fun _ => fun
  | [d1, d2, d3] => { results := [.lit (.bool true)], args := [d1, d2, d3] }
  | _ => none }
def archiveTellsRow : OpenClaim := { program := "ytlppgpidakfnlaa", sum := "d5e3afbb6539e3ab47061ef1346ee635eea1707cef3bc7bd328408447cd5fb11", func := "jobber/jobberlaw34.ArchiveTells", spec := "archiveTells", unfollowed := true, recurses := true, apart := false }
def ArchiveTellsSaid : Prop := archiveTellsRow.holds Try.pinned (OpenSpec.ofChange archiveTellsSpec)

/-- ITS FALSE NEIGHBOUR: 'it returns false'. Refute it at one input. -/
def archiveTellsWrong : ChangeSpec := { name := "archiveTells", fn := fun _ => fun
  | [d1, d2, d3] => { results := [.lit (.bool false)], args := [d1, d2, d3] }
  | _ => none }
def ArchiveTellsWrongFalsely : Prop := archiveTellsRow.holds Try.pinned (OpenSpec.ofChange archiveTellsWrong)

/-- 'jobberlaw34.ArchiveNobody': WHATEVER THE INPUT: true; the input reads as it did. -/
def archiveNobodySpec : ChangeSpec := { name := "archiveNobody", fn := fun _ => fun
  | [d] => { results := [.lit (.bool true)], args := [d] }
  | _ => none }
def archiveNobodyRow : OpenClaim := { program := "ytlppgpidakfnlaa", sum := "d5e3afbb6539e3ab47061ef1346ee635eea1707cef3bc7bd328408447cd5fb11", func := "jobber/jobberlaw34.ArchiveNobody", spec := "archiveNobody", unfollowed := true, recurses := true, apart := false }
def ArchiveNobodySaid : Prop := archiveNobodyRow.holds Try.pinned (OpenSpec.ofChange archiveNobodySpec)

/-- ITS FALSE NEIGHBOUR: 'it returns false'. Refute it at one input. -/
def archiveNobodyWrong : ChangeSpec := { name := "archiveNobody", fn := fun _ => fun
  | [d] => { results := [.lit (.bool false)], args := [d] }
  | _ => none }
def ArchiveNobodyWrongFalsely : Prop := archiveNobodyRow.holds Try.pinned (OpenSpec.ofChange archiveNobodyWrong)

/-- 'jobberlaw34.ArchiveCrash': WHATEVER THE INPUT: true; the input reads as it did. -/
def archiveCrashSpec : ChangeSpec := { name := "archiveCrash", fn := fun _ => fun
  | [d1, d2] => { results := [.lit (.bool true)], args := [d1, d2] }
  | _ => none }
def archiveCrashRow : OpenClaim := { program := "ytlppgpidakfnlaa", sum := "d5e3afbb6539e3ab47061ef1346ee635eea1707cef3bc7bd328408447cd5fb11", func := "jobber/jobberlaw34.ArchiveCrash", spec := "archiveCrash", unfollowed := true, recurses := true, apart := false }
def ArchiveCrashSaid : Prop := archiveCrashRow.holds Try.pinned (OpenSpec.ofChange archiveCrashSpec)

/-- ITS FALSE NEIGHBOUR: 'it returns false'. Refute it at one input. -/
def archiveCrashWrong : ChangeSpec := { name := "archiveCrash", fn := fun _ => fun
  | [d1, d2] => { results := [.lit (.bool false)], args := [d1, d2] }
  | _ => none }
def ArchiveCrashWrongFalsely : Prop := archiveCrashRow.holds Try.pinned (OpenSpec.ofChange archiveCrashWrong)

/-- 'jobberlaw33.BallotPlays': WHATEVER THE INPUT: true; the input reads as it did. -/
def ballotPlaysSpec : ChangeSpec := { name := "ballotPlays", fn := fun _ => fun
  | [d1, d2] => { results := [.lit (.bool true)], args := [d1, d2] }
  | _ => none }
def ballotPlaysRow : OpenClaim := { program := "ytlppgpidakfnlaa", sum := "d5e3afbb6539e3ab47061ef1346ee635eea1707cef3bc7bd328408447cd5fb11", func := "jobber/jobberlaw33.BallotPlays", spec := "ballotPlays", unfollowed := true, recurses := true, apart := false }
def BallotPlaysSaid : Prop := ballotPlaysRow.holds Try.pinned (OpenSpec.ofChange ballotPlaysSpec)

/-- ITS FALSE NEIGHBOUR: 'it returns false'. Refute it at one input. -/
def ballotPlaysWrong : ChangeSpec := { name := "ballotPlays", fn := fun _ => fun
  | [d1, d2] => { results := [.lit (.bool false)], args := [d1, d2] }
  | _ => none }
def BallotPlaysWrongFalsely : Prop := ballotPlaysRow.holds Try.pinned (OpenSpec.ofChange ballotPlaysWrong)

/-- 'jobberlaw33.BallotTells': WHATEVER THE INPUT: true; the input reads as it did. -/
def ballotTellsSpec : ChangeSpec := { name := "ballotTells", fn := fun _ => fun
  | [d1, d2, d3, d4] => { results := [.lit (.bool true)], args := [d1, d2, d3, d4] }
  | _ => none }
def ballotTellsRow : OpenClaim := { program := "ytlppgpidakfnlaa", sum := "d5e3afbb6539e3ab47061ef1346ee635eea1707cef3bc7bd328408447cd5fb11", func := "jobber/jobberlaw33.BallotTells", spec := "ballotTells", unfollowed := true, recurses := true, apart := false }
def BallotTellsSaid : Prop := ballotTellsRow.holds Try.pinned (OpenSpec.ofChange ballotTellsSpec)

/-- ITS FALSE NEIGHBOUR: 'it returns false'. Refute it at one input. -/
def ballotTellsWrong : ChangeSpec := { name := "ballotTells", fn := fun _ => fun
  | [d1, d2, d3, d4] => { results := [.lit (.bool false)], args := [d1, d2, d3, d4] }
  | _ => none }
def BallotTellsWrongFalsely : Prop := ballotTellsRow.holds Try.pinned (OpenSpec.ofChange ballotTellsWrong)

/-- 'jobberlaw33.BallotNobody': WHATEVER THE INPUT: true; the input reads as it did. -/
def ballotNobodySpec : ChangeSpec := { name := "ballotNobody", fn := fun _ => fun
  | [d1, d2] => { results := [.lit (.bool true)], args := [d1, d2] }
  | _ => none }
def ballotNobodyRow : OpenClaim := { program := "ytlppgpidakfnlaa", sum := "d5e3afbb6539e3ab47061ef1346ee635eea1707cef3bc7bd328408447cd5fb11", func := "jobber/jobberlaw33.BallotNobody", spec := "ballotNobody", unfollowed := true, recurses := true, apart := false }
def BallotNobodySaid : Prop := ballotNobodyRow.holds Try.pinned (OpenSpec.ofChange ballotNobodySpec)

/-- ITS FALSE NEIGHBOUR: 'it returns false'. Refute it at one input. -/
def ballotNobodyWrong : ChangeSpec := { name := "ballotNobody", fn := fun _ => fun
  | [d1, d2] => { results := [.lit (.bool false)], args := [d1, d2] }
  | _ => none }
def BallotNobodyWrongFalsely : Prop := ballotNobodyRow.holds Try.pinned (OpenSpec.ofChange ballotNobodyWrong)

/-- 'jobberlaw33.BallotCrash': WHATEVER THE INPUT: true; the input reads as it did. -/
def ballotCrashSpec : ChangeSpec := { name := "ballotCrash", fn := fun _ => fun
  | [d1, d2, d3] => { results := [.lit (.bool true)], args := [d1, d2, d3] }
  | _ => none }
def ballotCrashRow : OpenClaim := { program := "ytlppgpidakfnlaa", sum := "d5e3afbb6539e3ab47061ef1346ee635eea1707cef3bc7bd328408447cd5fb11", func := "jobber/jobberlaw33.BallotCrash", spec := "ballotCrash", unfollowed := true, recurses := true, apart := false }
def BallotCrashSaid : Prop := ballotCrashRow.holds Try.pinned (OpenSpec.ofChange ballotCrashSpec)

/-- ITS FALSE NEIGHBOUR: 'it returns false'. Refute it at one input. -/
def ballotCrashWrong : ChangeSpec := { name := "ballotCrash", fn := fun _ => fun
  | [d1, d2, d3] => { results := [.lit (.bool false)], args := [d1, d2, d3] }
  | _ => none }
def BallotCrashWrongFalsely : Prop := ballotCrashRow.holds Try.pinned (OpenSpec.ofChange ballotCrashWrong)

/-- 'jobberlaw36.WireTells': WHATEVER THE INPUT: true; the input reads as it did. -/
def wireTellsSpec : ChangeSpec := { name := "wireTells", fn := fun _ => fun
  | [d1, d2] => { results := [.lit (.bool true)], args := [d1, d2] }
  | _ => none }
def wireTellsRow : OpenClaim := { program := "ytlppgpidakfnlaa", sum := "d5e3afbb6539e3ab47061ef1346ee635eea1707cef3bc7bd328408447cd5fb11", func := "jobber/jobberlaw36.WireTells", spec := "wireTells", unfollowed := true, recurses := true, apart := false }
def WireTellsSaid : Prop := wireTellsRow.holds Try.pinned (OpenSpec.ofChange wireTellsSpec)

/-- ITS FALSE NEIGHBOUR: 'it returns false'. Refute it at one input. -/
def wireTellsWrong : ChangeSpec := { name := "wireTells", fn := fun _ => fun
  | [d1, d2] => { results := [.lit (.bool false)], args := [d1, d2] }
  | _ => none }
def WireTellsWrongFalsely : Prop := wireTellsRow.holds Try.pinned (OpenSpec.ofChange wireTellsWrong)

/-- 'jobberlaw36.WireWrites': WHATEVER THE INPUT: true; the input reads as it did. -/
def wireWritesSpec : ChangeSpec := { name := "wireWrites", fn := fun _ => fun
  | [d] => { results := [.lit (.bool true)], args := [d] }
  | _ => none }
def wireWritesRow : OpenClaim := { program := "ytlppgpidakfnlaa", sum := "d5e3afbb6539e3ab47061ef1346ee635eea1707cef3bc7bd328408447cd5fb11", func := "jobber/jobberlaw36.WireWrites", spec := "wireWrites", unfollowed := true, recurses := true, apart := false }
def WireWritesSaid : Prop := wireWritesRow.holds Try.pinned (OpenSpec.ofChange wireWritesSpec)

/-- ITS FALSE NEIGHBOUR: 'it returns false'. Refute it at one input. -/
def wireWritesWrong : ChangeSpec := { name := "wireWrites", fn := fun _ => fun
  | [d] => { results := [.lit (.bool false)], args := [d] }
  | _ => none }
def WireWritesWrongFalsely : Prop := wireWritesRow.holds Try.pinned (OpenSpec.ofChange wireWritesWrong)

/-- 'jobberlaw36.WireReads': WHATEVER THE INPUT: true; the input reads as it did. -/
def wireReadsSpec : ChangeSpec := { name := "wireReads", fn := fun _ => fun
  | [d] => { results := [.lit (.bool true)], args := [d] }
  | _ => none }
def wireReadsRow : OpenClaim := { program := "ytlppgpidakfnlaa", sum := "d5e3afbb6539e3ab47061ef1346ee635eea1707cef3bc7bd328408447cd5fb11", func := "jobber/jobberlaw36.WireReads", spec := "wireReads", unfollowed := true, recurses := true, apart := false }
def WireReadsSaid : Prop := wireReadsRow.holds Try.pinned (OpenSpec.ofChange wireReadsSpec)

/-- ITS FALSE NEIGHBOUR: 'it returns false'. Refute it at one input. -/
def wireReadsWrong : ChangeSpec := { name := "wireReads", fn := fun _ => fun
  | [d] => { results := [.lit (.bool false)], args := [d] }
  | _ => none }
def WireReadsWrongFalsely : Prop := wireReadsRow.holds Try.pinned (OpenSpec.ofChange wireReadsWrong)

/-- 'jobberlaw36.WireLong': WHATEVER THE INPUT: true; the input reads as it did. -/
def wireLongSpec : ChangeSpec := { name := "wireLong", fn := fun _ => fun
  | [d1, d2] => { results := [.lit (.bool true)], args := [d1, d2] }
  | _ => none }
def wireLongRow : OpenClaim := { program := "ytlppgpidakfnlaa", sum := "d5e3afbb6539e3ab47061ef1346ee635eea1707cef3bc7bd328408447cd5fb11", func := "jobber/jobberlaw36.WireLong", spec := "wireLong", unfollowed := true, recurses := true, apart := false }
def WireLongSaid : Prop := wireLongRow.holds Try.pinned (OpenSpec.ofChange wireLongSpec)

/-- ITS FALSE NEIGHBOUR: 'it returns false'. Refute it at one input. -/
def wireLongWrong : ChangeSpec := { name := "wireLong", fn := fun _ => fun
  | [d1, d2] => { results := [.lit (.bool false)], args := [d1, d2] }
  | _ => none }
def WireLongWrongFalsely : Prop := wireLongRow.holds Try.pinned (OpenSpec.ofChange wireLongWrong)

/- THE SECOND FORM. 'bulk': how many values and letters a reading holds, each counted each time it is reached (what is shared counts as often as it is met; a slice's spare places count too). A statement '..UptoSaid' is the law's where the arguments, and the package variables that the reading takes, are together of bulk at most 1048576: NARROWER than '..Said'. Prove '..Said' where nothing that the law and all that it calls make is longer than what came in: it says more and counts as full. Else prove '..UptoSaid'. A law counts once. -/
mutual
def uptoBulk {H : Type} : DataW H → Nat
  | .lit (.string bytes) => bytes.length + 1
  | .lit _ => 1
  | .nil => 1
  | .ptr d => uptoBulk d + 1
  | .slice elems spare => uptoBulkAll elems + uptoBulkAll spare + 1
  | .agg parts => uptoBulkAll parts + 1
  | .iface _ d => uptoBulk d + 1
  | .map entries => uptoBulkEntries entries + 1
  | .held _ => 1
def uptoBulkAll {H : Type} : List (DataW H) → Nat
  | [] => 0
  | d :: r => uptoBulk d + uptoBulkAll r
def uptoBulkEntries {H : Type} : List (Lit × DataW H) → Nat
  | [] => 0
  | x :: r => uptoBulkEntry x + uptoBulkEntries r
def uptoBulkEntry {H : Type} : Lit × DataW H → Nat
  | (.string bytes, d) => bytes.length + uptoBulk d + 1
  | (_, d) => uptoBulk d + 1
 end
def uptoSmall : (H : Type) → List (DataW H) → Bool := fun _ ds => decide (uptoBulkAll ds ≤ 1048576)
def OpenSpec.upto (s : _root_.Go.ChangeSpec) : _root_.Go.OpenSpec := { _root_.Go.OpenSpec.ofChange s with cond := some uptoSmall }

/-- 'jobberlaw03.ParcelTorn', WHERE WHAT IT READS IS OF BULK AT MOST 1048576: true; the input reads as it did. -/
def parcelTornUptoRow : OpenClaim := { program := "ytlppgpidakfnlaa", sum := "d5e3afbb6539e3ab47061ef1346ee635eea1707cef3bc7bd328408447cd5fb11", func := "jobber/jobberlaw03.ParcelTorn", spec := "parcelTorn", unfollowed := true, recurses := true, apart := false, narrowed := true }
def ParcelTornUptoSaid : Prop := parcelTornUptoRow.holds Try.pinned (OpenSpec.upto parcelTornSpec)

/-- 'jobberlaw03.ParcelRows', WHERE WHAT IT READS IS OF BULK AT MOST 1048576: true; the input reads as it did. -/
def parcelRowsUptoRow : OpenClaim := { program := "ytlppgpidakfnlaa", sum := "d5e3afbb6539e3ab47061ef1346ee635eea1707cef3bc7bd328408447cd5fb11", func := "jobber/jobberlaw03.ParcelRows", spec := "parcelRows", unfollowed := true, recurses := true, apart := false, narrowed := true }
def ParcelRowsUptoSaid : Prop := parcelRowsUptoRow.holds Try.pinned (OpenSpec.upto parcelRowsSpec)

/-- 'jobberlaw34.ArchiveWrites', WHERE WHAT IT READS IS OF BULK AT MOST 1048576: true; the input reads as it did. -/
def archiveWritesUptoRow : OpenClaim := { program := "ytlppgpidakfnlaa", sum := "d5e3afbb6539e3ab47061ef1346ee635eea1707cef3bc7bd328408447cd5fb11", func := "jobber/jobberlaw34.ArchiveWrites", spec := "archiveWrites", unfollowed := true, recurses := true, apart := false, narrowed := true }
def ArchiveWritesUptoSaid : Prop := archiveWritesUptoRow.holds Try.pinned (OpenSpec.upto archiveWritesSpec)

/-- 'jobberlaw34.ArchiveLong', WHERE WHAT IT READS IS OF BULK AT MOST 1048576: true; the input reads as it did. -/
def archiveLongUptoRow : OpenClaim := { program := "ytlppgpidakfnlaa", sum := "d5e3afbb6539e3ab47061ef1346ee635eea1707cef3bc7bd328408447cd5fb11", func := "jobber/jobberlaw34.ArchiveLong", spec := "archiveLong", unfollowed := true, recurses := true, apart := false, narrowed := true }
def ArchiveLongUptoSaid : Prop := archiveLongUptoRow.holds Try.pinned (OpenSpec.upto archiveLongSpec)

/-- 'jobberlaw34.ArchivePlays', WHERE WHAT IT READS IS OF BULK AT MOST 1048576: true; the input reads as it did. -/
def archivePlaysUptoRow : OpenClaim := { program := "ytlppgpidakfnlaa", sum := "d5e3afbb6539e3ab47061ef1346ee635eea1707cef3bc7bd328408447cd5fb11", func := "jobber/jobberlaw34.ArchivePlays", spec := "archivePlays", unfollowed := true, recurses := true, apart := false, narrowed := true }
def ArchivePlaysUptoSaid : Prop := archivePlaysUptoRow.holds Try.pinned (OpenSpec.upto archivePlaysSpec)

/-- 'jobberlaw34.ArchiveTells', WHERE WHAT IT READS IS OF BULK AT MOST 1048576: true; the input reads as it did. -/
def archiveTellsUptoRow : OpenClaim := { program := "ytlppgpidakfnlaa", sum := "d5e3afbb6539e3ab47061ef1346ee635eea1707cef3bc7bd328408447cd5fb11", func := "jobber/jobberlaw34.ArchiveTells", spec := "archiveTells", unfollowed := true, recurses := true, apart := false, narrowed := true }
def ArchiveTellsUptoSaid : Prop := archiveTellsUptoRow.holds Try.pinned (OpenSpec.upto archiveTellsSpec)

/-- 'jobberlaw34.ArchiveNobody', WHERE WHAT IT READS IS OF BULK AT MOST 1048576: true; the input reads as it did. -/
def archiveNobodyUptoRow : OpenClaim := { program := "ytlppgpidakfnlaa", sum := "d5e3afbb6539e3ab47061ef1346ee635eea1707cef3bc7bd328408447cd5fb11", func := "jobber/jobberlaw34.ArchiveNobody", spec := "archiveNobody", unfollowed := true, recurses := true, apart := false, narrowed := true }
def ArchiveNobodyUptoSaid : Prop := archiveNobodyUptoRow.holds Try.pinned (OpenSpec.upto archiveNobodySpec)

/-- 'jobberlaw34.ArchiveCrash', WHERE WHAT IT READS IS OF BULK AT MOST 1048576: true; the input reads as it did. -/
def archiveCrashUptoRow : OpenClaim := { program := "ytlppgpidakfnlaa", sum := "d5e3afbb6539e3ab47061ef1346ee635eea1707cef3bc7bd328408447cd5fb11", func := "jobber/jobberlaw34.ArchiveCrash", spec := "archiveCrash", unfollowed := true, recurses := true, apart := false, narrowed := true }
def ArchiveCrashUptoSaid : Prop := archiveCrashUptoRow.holds Try.pinned (OpenSpec.upto archiveCrashSpec)

/-- 'jobberlaw33.BallotPlays', WHERE WHAT IT READS IS OF BULK AT MOST 1048576: true; the input reads as it did. -/
def ballotPlaysUptoRow : OpenClaim := { program := "ytlppgpidakfnlaa", sum := "d5e3afbb6539e3ab47061ef1346ee635eea1707cef3bc7bd328408447cd5fb11", func := "jobber/jobberlaw33.BallotPlays", spec := "ballotPlays", unfollowed := true, recurses := true, apart := false, narrowed := true }
def BallotPlaysUptoSaid : Prop := ballotPlaysUptoRow.holds Try.pinned (OpenSpec.upto ballotPlaysSpec)

/-- 'jobberlaw33.BallotTells', WHERE WHAT IT READS IS OF BULK AT MOST 1048576: true; the input reads as it did. -/
def ballotTellsUptoRow : OpenClaim := { program := "ytlppgpidakfnlaa", sum := "d5e3afbb6539e3ab47061ef1346ee635eea1707cef3bc7bd328408447cd5fb11", func := "jobber/jobberlaw33.BallotTells", spec := "ballotTells", unfollowed := true, recurses := true, apart := false, narrowed := true }
def BallotTellsUptoSaid : Prop := ballotTellsUptoRow.holds Try.pinned (OpenSpec.upto ballotTellsSpec)

/-- 'jobberlaw33.BallotNobody', WHERE WHAT IT READS IS OF BULK AT MOST 1048576: true; the input reads as it did. -/
def ballotNobodyUptoRow : OpenClaim := { program := "ytlppgpidakfnlaa", sum := "d5e3afbb6539e3ab47061ef1346ee635eea1707cef3bc7bd328408447cd5fb11", func := "jobber/jobberlaw33.BallotNobody", spec := "ballotNobody", unfollowed := true, recurses := true, apart := false, narrowed := true }
def BallotNobodyUptoSaid : Prop := ballotNobodyUptoRow.holds Try.pinned (OpenSpec.upto ballotNobodySpec)

/-- 'jobberlaw33.BallotCrash', WHERE WHAT IT READS IS OF BULK AT MOST 1048576: true; the input reads as it did. -/
def ballotCrashUptoRow : OpenClaim := { program := "ytlppgpidakfnlaa", sum := "d5e3afbb6539e3ab47061ef1346ee635eea1707cef3bc7bd328408447cd5fb11", func := "jobber/jobberlaw33.BallotCrash", spec := "ballotCrash", unfollowed := true, recurses := true, apart := false, narrowed := true }
def BallotCrashUptoSaid : Prop := ballotCrashUptoRow.holds Try.pinned (OpenSpec.upto ballotCrashSpec)

/-- 'jobberlaw36.WireTells', WHERE WHAT IT READS IS OF BULK AT MOST 1048576: true; the input reads as it did. -/
def wireTellsUptoRow : OpenClaim := { program := "ytlppgpidakfnlaa", sum := "d5e3afbb6539e3ab47061ef1346ee635eea1707cef3bc7bd328408447cd5fb11", func := "jobber/jobberlaw36.WireTells", spec := "wireTells", unfollowed := true, recurses := true, apart := false, narrowed := true }
def WireTellsUptoSaid : Prop := wireTellsUptoRow.holds Try.pinned (OpenSpec.upto wireTellsSpec)

/-- 'jobberlaw36.WireWrites', WHERE WHAT IT READS IS OF BULK AT MOST 1048576: true; the input reads as it did. -/
def wireWritesUptoRow : OpenClaim := { program := "ytlppgpidakfnlaa", sum := "d5e3afbb6539e3ab47061ef1346ee635eea1707cef3bc7bd328408447cd5fb11", func := "jobber/jobberlaw36.WireWrites", spec := "wireWrites", unfollowed := true, recurses := true, apart := false, narrowed := true }
def WireWritesUptoSaid : Prop := wireWritesUptoRow.holds Try.pinned (OpenSpec.upto wireWritesSpec)

/-- 'jobberlaw36.WireReads', WHERE WHAT IT READS IS OF BULK AT MOST 1048576: true; the input reads as it did. -/
def wireReadsUptoRow : OpenClaim := { program := "ytlppgpidakfnlaa", sum := "d5e3afbb6539e3ab47061ef1346ee635eea1707cef3bc7bd328408447cd5fb11", func := "jobber/jobberlaw36.WireReads", spec := "wireReads", unfollowed := true, recurses := true, apart := false, narrowed := true }
def WireReadsUptoSaid : Prop := wireReadsUptoRow.holds Try.pinned (OpenSpec.upto wireReadsSpec)

/-- 'jobberlaw36.WireLong', WHERE WHAT IT READS IS OF BULK AT MOST 1048576: true; the input reads as it did. -/
def wireLongUptoRow : OpenClaim := { program := "ytlppgpidakfnlaa", sum := "d5e3afbb6539e3ab47061ef1346ee635eea1707cef3bc7bd328408447cd5fb11", func := "jobber/jobberlaw36.WireLong", spec := "wireLong", unfollowed := true, recurses := true, apart := false, narrowed := true }
def WireLongUptoSaid : Prop := wireLongUptoRow.holds Try.pinned (OpenSpec.upto wireLongSpec)

end Rows
end Go.Proofs.Ytlppgpidakfnlaa
