/-
  No cell of these rows narrows 'for every input' (looked for: loops, veiled, ifaces, maps, wideKeys, modest, calm, conditions, laid).
  DERIVED. THE GIVEN ROWS OF THIS SEAT. 26 by the template 'for every input the law returns true; each argument reads behind the call as it read before'; 0 by the template 'total and deterministic' (their statements: YtcikoealneldkaaTotals.lean).
  GIVEN WITH THE SEED: the statements are not yours to turn. If you find one false, say at which input.
  Laid BY PROGRAM, IN A SANDBOX (cutbox-rows.mjs): the forced cells as the released guide's own fill.sh prints them over the translation 6a6f2fb04661637e… (all of the seat's roots in one cut). By AI agents, Wed Nov 11 2026. No macro, syntax, notation, axiom, sorry.
-/
import Derived.Test.YtcikoealneldkaaChecked
import GoSem.Claim
import GoSem.ClaimJoined
import GoSem.ClaimMapViews
import Derived.JoinedTies
import Derived.KernelRfl
namespace Go.Proofs.Ytcikoealneldkaa
/- THE CELL 'sum', in the pinned program and in every row, IS THE sha256 OF THE DUMP (.gsa) THAT YtcikoealneldkaaProg.lean LOADS. Nothing in Lean hashes anything: it is a label: what it is worth is what the hold of that sum in a sandbox is worth. -/
noncomputable def Try.pinned : Pinned := { name := "ytcikoealneldkaa", sum := "6a6f2fb04661637e9e9a01d3b7a6e9a92370d8d4403728f9a493df6cd221161c", checked := Try.checked }
namespace Rows
def none {H : Type} : Left H := { results := [], args := [] }

/-- 'jobberlaw25.AcksPlay': WHATEVER THE INPUT: true; the input reads as it did. -/
def acksPlaySpec : ChangeSpec := { name := "acksPlay", fn := fun _ => fun
  | [d1, d2, d3, d4] => { results := [.lit (.bool true)], args := [d1, d2, d3, d4] }
  | _ => none }
def acksPlayRow : OpenClaim := { program := "ytcikoealneldkaa", sum := "6a6f2fb04661637e9e9a01d3b7a6e9a92370d8d4403728f9a493df6cd221161c", func := "jobber/jobberlaw25.AcksPlay", spec := "acksPlay", apart := false }
def AcksPlaySaid : Prop := acksPlayRow.holds Try.pinned (OpenSpec.ofChange acksPlaySpec)

/-- ITS FALSE NEIGHBOUR: 'it returns false'. Refute it at one input. -/
def acksPlayWrong : ChangeSpec := { name := "acksPlay", fn := fun _ => fun
  | [d1, d2, d3, d4] => { results := [.lit (.bool false)], args := [d1, d2, d3, d4] }
  | _ => none }
def AcksPlayWrongFalsely : Prop := acksPlayRow.holds Try.pinned (OpenSpec.ofChange acksPlayWrong)

/-- 'jobberlaw02.CodecWrites': WHATEVER THE INPUT: true; the input reads as it did. -/
def codecWritesSpec : ChangeSpec := { name := "codecWrites", fn := fun _ => fun
  | [d] => { results := [.lit (.bool true)], args := [d] }
  | _ => none }
def codecWritesRow : OpenClaim := { program := "ytcikoealneldkaa", sum := "6a6f2fb04661637e9e9a01d3b7a6e9a92370d8d4403728f9a493df6cd221161c", func := "jobber/jobberlaw02.CodecWrites", spec := "codecWrites", recurses := true, apart := false }
def CodecWritesSaid : Prop := codecWritesRow.holds Try.pinned (OpenSpec.ofChange codecWritesSpec)

/-- ITS FALSE NEIGHBOUR: 'it returns false'. Refute it at one input. -/
def codecWritesWrong : ChangeSpec := { name := "codecWrites", fn := fun _ => fun
  | [d] => { results := [.lit (.bool false)], args := [d] }
  | _ => none }
def CodecWritesWrongFalsely : Prop := codecWritesRow.holds Try.pinned (OpenSpec.ofChange codecWritesWrong)

/-- 'jobberlaw28.SessionNobody': WHATEVER THE INPUT: true; the input reads as it did. -/
def sessionNobodySpec : ChangeSpec := { name := "sessionNobody", fn := fun _ => fun
  | [d1, d2] => { results := [.lit (.bool true)], args := [d1, d2] }
  | _ => none }
def sessionNobodyRow : OpenClaim := { program := "ytcikoealneldkaa", sum := "6a6f2fb04661637e9e9a01d3b7a6e9a92370d8d4403728f9a493df6cd221161c", func := "jobber/jobberlaw28.SessionNobody", spec := "sessionNobody", apart := false }
def SessionNobodySaid : Prop := sessionNobodyRow.holds Try.pinned (OpenSpec.ofChange sessionNobodySpec)

/-- ITS FALSE NEIGHBOUR: 'it returns false'. Refute it at one input. -/
def sessionNobodyWrong : ChangeSpec := { name := "sessionNobody", fn := fun _ => fun
  | [d1, d2] => { results := [.lit (.bool false)], args := [d1, d2] }
  | _ => none }
def SessionNobodyWrongFalsely : Prop := sessionNobodyRow.holds Try.pinned (OpenSpec.ofChange sessionNobodyWrong)

/-- 'jobberlaw02.CodecReads': WHATEVER THE INPUT: true; the input reads as it did. -/
def codecReadsSpec : ChangeSpec := { name := "codecReads", fn := fun _ => fun
  | [d1, d2] => { results := [.lit (.bool true)], args := [d1, d2] }
  | _ => none }
def codecReadsRow : OpenClaim := { program := "ytcikoealneldkaa", sum := "6a6f2fb04661637e9e9a01d3b7a6e9a92370d8d4403728f9a493df6cd221161c", func := "jobber/jobberlaw02.CodecReads", spec := "codecReads", unfollowed := true, recurses := true, apart := false }
def CodecReadsSaid : Prop := codecReadsRow.holds Try.pinned (OpenSpec.ofChange codecReadsSpec)

/-- ITS FALSE NEIGHBOUR: 'it returns false'. Refute it at one input. -/
def codecReadsWrong : ChangeSpec := { name := "codecReads", fn := fun _ => fun
  | [d1, d2] => { results := [.lit (.bool false)], args := [d1, d2] }
  | _ => none }
def CodecReadsWrongFalsely : Prop := codecReadsRow.holds Try.pinned (OpenSpec.ofChange codecReadsWrong)

/-- 'jobberlaw31.DiskLasts': WHATEVER THE INPUT: true; the input reads as it did. -/
def diskLastsSpec : ChangeSpec := { name := "diskLasts", fn := fun _ => fun
  | [d1, d2, d3] => { results := [.lit (.bool true)], args := [d1, d2, d3] }
  | _ => none }
def diskLastsRow : OpenClaim := { program := "ytcikoealneldkaa", sum := "6a6f2fb04661637e9e9a01d3b7a6e9a92370d8d4403728f9a493df6cd221161c", func := "jobber/jobberlaw31.DiskLasts", spec := "diskLasts", unfollowed := true, recurses := true, apart := false }
def DiskLastsSaid : Prop := diskLastsRow.holds Try.pinned (OpenSpec.ofChange diskLastsSpec)

/-- ITS FALSE NEIGHBOUR: 'it returns false'. Refute it at one input. -/
def diskLastsWrong : ChangeSpec := { name := "diskLasts", fn := fun _ => fun
  | [d1, d2, d3] => { results := [.lit (.bool false)], args := [d1, d2, d3] }
  | _ => none }
def DiskLastsWrongFalsely : Prop := diskLastsRow.holds Try.pinned (OpenSpec.ofChange diskLastsWrong)

/-- 'jobberlaw31.DiskTorn': WHATEVER THE INPUT: true; the input reads as it did. -/
def diskTornSpec : ChangeSpec := { name := "diskTorn", fn := fun _ => fun
  | [d1, d2] => { results := [.lit (.bool true)], args := [d1, d2] }
  | _ => none }
def diskTornRow : OpenClaim := { program := "ytcikoealneldkaa", sum := "6a6f2fb04661637e9e9a01d3b7a6e9a92370d8d4403728f9a493df6cd221161c", func := "jobber/jobberlaw31.DiskTorn", spec := "diskTorn", unfollowed := true, recurses := true, apart := false }
def DiskTornSaid : Prop := diskTornRow.holds Try.pinned (OpenSpec.ofChange diskTornSpec)

/-- ITS FALSE NEIGHBOUR: 'it returns false'. Refute it at one input. -/
def diskTornWrong : ChangeSpec := { name := "diskTorn", fn := fun _ => fun
  | [d1, d2] => { results := [.lit (.bool false)], args := [d1, d2] }
  | _ => none }
def DiskTornWrongFalsely : Prop := diskTornRow.holds Try.pinned (OpenSpec.ofChange diskTornWrong)

/-- 'jobberlaw02.CodecBack': WHATEVER THE INPUT: true; the input reads as it did. -/
def codecBackSpec : ChangeSpec := { name := "codecBack", fn := fun _ => fun
  | [d] => { results := [.lit (.bool true)], args := [d] }
  | _ => none }
def codecBackRow : OpenClaim := { program := "ytcikoealneldkaa", sum := "6a6f2fb04661637e9e9a01d3b7a6e9a92370d8d4403728f9a493df6cd221161c", func := "jobber/jobberlaw02.CodecBack", spec := "codecBack", unfollowed := true, recurses := true, apart := false }
def CodecBackSaid : Prop := codecBackRow.holds Try.pinned (OpenSpec.ofChange codecBackSpec)

/-- ITS FALSE NEIGHBOUR: 'it returns false'. Refute it at one input. -/
def codecBackWrong : ChangeSpec := { name := "codecBack", fn := fun _ => fun
  | [d] => { results := [.lit (.bool false)], args := [d] }
  | _ => none }
def CodecBackWrongFalsely : Prop := codecBackRow.holds Try.pinned (OpenSpec.ofChange codecBackWrong)

/-- 'jobberlaw02.CodecOnce': WHATEVER THE INPUT: true; the input reads as it did. -/
def codecOnceSpec : ChangeSpec := { name := "codecOnce", fn := fun _ => fun
  | [d] => { results := [.lit (.bool true)], args := [d] }
  | _ => none }
def codecOnceRow : OpenClaim := { program := "ytcikoealneldkaa", sum := "6a6f2fb04661637e9e9a01d3b7a6e9a92370d8d4403728f9a493df6cd221161c", func := "jobber/jobberlaw02.CodecOnce", spec := "codecOnce", unfollowed := true, recurses := true, apart := false }
def CodecOnceSaid : Prop := codecOnceRow.holds Try.pinned (OpenSpec.ofChange codecOnceSpec)

/-- ITS FALSE NEIGHBOUR: 'it returns false'. Refute it at one input. -/
def codecOnceWrong : ChangeSpec := { name := "codecOnce", fn := fun _ => fun
  | [d] => { results := [.lit (.bool false)], args := [d] }
  | _ => none }
def CodecOnceWrongFalsely : Prop := codecOnceRow.holds Try.pinned (OpenSpec.ofChange codecOnceWrong)

/-- 'jobberlaw02.CodecNobody': WHATEVER THE INPUT: true; the input reads as it did. -/
def codecNobodySpec : ChangeSpec := { name := "codecNobody", fn := fun _ => fun
  | [d1, d2] => { results := [.lit (.bool true)], args := [d1, d2] }
  | _ => none }
def codecNobodyRow : OpenClaim := { program := "ytcikoealneldkaa", sum := "6a6f2fb04661637e9e9a01d3b7a6e9a92370d8d4403728f9a493df6cd221161c", func := "jobber/jobberlaw02.CodecNobody", spec := "codecNobody", unfollowed := true, recurses := true, apart := false }
def CodecNobodySaid : Prop := codecNobodyRow.holds Try.pinned (OpenSpec.ofChange codecNobodySpec)

/-- ITS FALSE NEIGHBOUR: 'it returns false'. Refute it at one input. -/
def codecNobodyWrong : ChangeSpec := { name := "codecNobody", fn := fun _ => fun
  | [d1, d2] => { results := [.lit (.bool false)], args := [d1, d2] }
  | _ => none }
def CodecNobodyWrongFalsely : Prop := codecNobodyRow.holds Try.pinned (OpenSpec.ofChange codecNobodyWrong)

/-- 'jobberlaw25.AcksWrite': WHATEVER THE INPUT: true; the input reads as it did. -/
def acksWriteSpec : ChangeSpec := { name := "acksWrite", fn := fun _ => fun
  | [d1, d2] => { results := [.lit (.bool true)], args := [d1, d2] }
  | _ => none }
def acksWriteRow : OpenClaim := { program := "ytcikoealneldkaa", sum := "6a6f2fb04661637e9e9a01d3b7a6e9a92370d8d4403728f9a493df6cd221161c", func := "jobber/jobberlaw25.AcksWrite", spec := "acksWrite", unfollowed := true, recurses := true, apart := false }
def AcksWriteSaid : Prop := acksWriteRow.holds Try.pinned (OpenSpec.ofChange acksWriteSpec)

/-- ITS FALSE NEIGHBOUR: 'it returns false'. Refute it at one input. -/
def acksWriteWrong : ChangeSpec := { name := "acksWrite", fn := fun _ => fun
  | [d1, d2] => { results := [.lit (.bool false)], args := [d1, d2] }
  | _ => none }
def AcksWriteWrongFalsely : Prop := acksWriteRow.holds Try.pinned (OpenSpec.ofChange acksWriteWrong)

/-- 'jobberlaw25.AcksRead': WHATEVER THE INPUT: true; the input reads as it did. -/
def acksReadSpec : ChangeSpec := { name := "acksRead", fn := fun _ => fun
  | [d] => { results := [.lit (.bool true)], args := [d] }
  | _ => none }
def acksReadRow : OpenClaim := { program := "ytcikoealneldkaa", sum := "6a6f2fb04661637e9e9a01d3b7a6e9a92370d8d4403728f9a493df6cd221161c", func := "jobber/jobberlaw25.AcksRead", spec := "acksRead", unfollowed := true, recurses := true, apart := false }
def AcksReadSaid : Prop := acksReadRow.holds Try.pinned (OpenSpec.ofChange acksReadSpec)

/-- ITS FALSE NEIGHBOUR: 'it returns false'. Refute it at one input. -/
def acksReadWrong : ChangeSpec := { name := "acksRead", fn := fun _ => fun
  | [d] => { results := [.lit (.bool false)], args := [d] }
  | _ => none }
def AcksReadWrongFalsely : Prop := acksReadRow.holds Try.pinned (OpenSpec.ofChange acksReadWrong)

/-- 'jobberlaw31.DiskPlays': WHATEVER THE INPUT: true; the input reads as it did. -/
def diskPlaysSpec : ChangeSpec := { name := "diskPlays", fn := fun _ => fun
  | [d] => { results := [.lit (.bool true)], args := [d] }
  | _ => none }
def diskPlaysRow : OpenClaim := { program := "ytcikoealneldkaa", sum := "6a6f2fb04661637e9e9a01d3b7a6e9a92370d8d4403728f9a493df6cd221161c", func := "jobber/jobberlaw31.DiskPlays", spec := "diskPlays", unfollowed := true, recurses := true, apart := false }
def DiskPlaysSaid : Prop := diskPlaysRow.holds Try.pinned (OpenSpec.ofChange diskPlaysSpec)

/-- ITS FALSE NEIGHBOUR: 'it returns false'. Refute it at one input. -/
def diskPlaysWrong : ChangeSpec := { name := "diskPlays", fn := fun _ => fun
  | [d] => { results := [.lit (.bool false)], args := [d] }
  | _ => none }
def DiskPlaysWrongFalsely : Prop := diskPlaysRow.holds Try.pinned (OpenSpec.ofChange diskPlaysWrong)

/-- 'jobberlaw31.DiskNobody': WHATEVER THE INPUT: true; the input reads as it did. -/
def diskNobodySpec : ChangeSpec := { name := "diskNobody", fn := fun _ => fun
  | [d1, d2] => { results := [.lit (.bool true)], args := [d1, d2] }
  | _ => none }
def diskNobodyRow : OpenClaim := { program := "ytcikoealneldkaa", sum := "6a6f2fb04661637e9e9a01d3b7a6e9a92370d8d4403728f9a493df6cd221161c", func := "jobber/jobberlaw31.DiskNobody", spec := "diskNobody", unfollowed := true, recurses := true, apart := false }
def DiskNobodySaid : Prop := diskNobodyRow.holds Try.pinned (OpenSpec.ofChange diskNobodySpec)

/-- ITS FALSE NEIGHBOUR: 'it returns false'. Refute it at one input. -/
def diskNobodyWrong : ChangeSpec := { name := "diskNobody", fn := fun _ => fun
  | [d1, d2] => { results := [.lit (.bool false)], args := [d1, d2] }
  | _ => none }
def DiskNobodyWrongFalsely : Prop := diskNobodyRow.holds Try.pinned (OpenSpec.ofChange diskNobodyWrong)

/-- 'jobberlaw21.EventWrites': WHATEVER THE INPUT: true; the input reads as it did. -/
def eventWritesSpec : ChangeSpec := { name := "eventWrites", fn := fun _ => fun
  | [d1, d2] => { results := [.lit (.bool true)], args := [d1, d2] }
  | _ => none }
def eventWritesRow : OpenClaim := { program := "ytcikoealneldkaa", sum := "6a6f2fb04661637e9e9a01d3b7a6e9a92370d8d4403728f9a493df6cd221161c", func := "jobber/jobberlaw21.EventWrites", spec := "eventWrites", unfollowed := true, recurses := true, apart := false }
def EventWritesSaid : Prop := eventWritesRow.holds Try.pinned (OpenSpec.ofChange eventWritesSpec)

/-- ITS FALSE NEIGHBOUR: 'it returns false'. Refute it at one input. -/
def eventWritesWrong : ChangeSpec := { name := "eventWrites", fn := fun _ => fun
  | [d1, d2] => { results := [.lit (.bool false)], args := [d1, d2] }
  | _ => none }
def EventWritesWrongFalsely : Prop := eventWritesRow.holds Try.pinned (OpenSpec.ofChange eventWritesWrong)

/-- 'jobberlaw21.EventReads': WHATEVER THE INPUT: true; the input reads as it did. -/
def eventReadsSpec : ChangeSpec := { name := "eventReads", fn := fun _ => fun
  | [d] => { results := [.lit (.bool true)], args := [d] }
  | _ => none }
def eventReadsRow : OpenClaim := { program := "ytcikoealneldkaa", sum := "6a6f2fb04661637e9e9a01d3b7a6e9a92370d8d4403728f9a493df6cd221161c", func := "jobber/jobberlaw21.EventReads", spec := "eventReads", unfollowed := true, recurses := true, apart := false }
def EventReadsSaid : Prop := eventReadsRow.holds Try.pinned (OpenSpec.ofChange eventReadsSpec)

/-- ITS FALSE NEIGHBOUR: 'it returns false'. Refute it at one input. -/
def eventReadsWrong : ChangeSpec := { name := "eventReads", fn := fun _ => fun
  | [d] => { results := [.lit (.bool false)], args := [d] }
  | _ => none }
def EventReadsWrongFalsely : Prop := eventReadsRow.holds Try.pinned (OpenSpec.ofChange eventReadsWrong)

/-- 'jobberlaw21.EventTells': WHATEVER THE INPUT: true; the input reads as it did. -/
def eventTellsSpec : ChangeSpec := { name := "eventTells", fn := fun _ => fun
  | [d1, d2, d3] => { results := [.lit (.bool true)], args := [d1, d2, d3] }
  | _ => none }
def eventTellsRow : OpenClaim := { program := "ytcikoealneldkaa", sum := "6a6f2fb04661637e9e9a01d3b7a6e9a92370d8d4403728f9a493df6cd221161c", func := "jobber/jobberlaw21.EventTells", spec := "eventTells", unfollowed := true, recurses := true, apart := false }
def EventTellsSaid : Prop := eventTellsRow.holds Try.pinned (OpenSpec.ofChange eventTellsSpec)

/-- ITS FALSE NEIGHBOUR: 'it returns false'. Refute it at one input. -/
def eventTellsWrong : ChangeSpec := { name := "eventTells", fn := fun _ => fun
  | [d1, d2, d3] => { results := [.lit (.bool false)], args := [d1, d2, d3] }
  | _ => none }
def EventTellsWrongFalsely : Prop := eventTellsRow.holds Try.pinned (OpenSpec.ofChange eventTellsWrong)

/-- 'jobberlaw03.ParcelWraps': WHATEVER THE INPUT: true; the input reads as it did. -/
def parcelWrapsSpec : ChangeSpec := { name := "parcelWraps", fn := fun _ => fun
  | [d1, d2] => { results := [.lit (.bool true)], args := [d1, d2] }
  | _ => none }
def parcelWrapsRow : OpenClaim := { program := "ytcikoealneldkaa", sum := "6a6f2fb04661637e9e9a01d3b7a6e9a92370d8d4403728f9a493df6cd221161c", func := "jobber/jobberlaw03.ParcelWraps", spec := "parcelWraps", unfollowed := true, recurses := true, apart := false }
def ParcelWrapsSaid : Prop := parcelWrapsRow.holds Try.pinned (OpenSpec.ofChange parcelWrapsSpec)

/-- ITS FALSE NEIGHBOUR: 'it returns false'. Refute it at one input. -/
def parcelWrapsWrong : ChangeSpec := { name := "parcelWraps", fn := fun _ => fun
  | [d1, d2] => { results := [.lit (.bool false)], args := [d1, d2] }
  | _ => none }
def ParcelWrapsWrongFalsely : Prop := parcelWrapsRow.holds Try.pinned (OpenSpec.ofChange parcelWrapsWrong)

/-- 'jobberlaw03.ParcelTakes': WHATEVER THE INPUT: true; the input reads as it did. -/
def parcelTakesSpec : ChangeSpec := { name := "parcelTakes", fn := fun _ => fun
  | [d] => { results := [.lit (.bool true)], args := [d] }
  | _ => none }
def parcelTakesRow : OpenClaim := { program := "ytcikoealneldkaa", sum := "6a6f2fb04661637e9e9a01d3b7a6e9a92370d8d4403728f9a493df6cd221161c", func := "jobber/jobberlaw03.ParcelTakes", spec := "parcelTakes", unfollowed := true, recurses := true, apart := false }
def ParcelTakesSaid : Prop := parcelTakesRow.holds Try.pinned (OpenSpec.ofChange parcelTakesSpec)

/-- ITS FALSE NEIGHBOUR: 'it returns false'. Refute it at one input. -/
def parcelTakesWrong : ChangeSpec := { name := "parcelTakes", fn := fun _ => fun
  | [d] => { results := [.lit (.bool false)], args := [d] }
  | _ => none }
def ParcelTakesWrongFalsely : Prop := parcelTakesRow.holds Try.pinned (OpenSpec.ofChange parcelTakesWrong)

/-- 'jobberlaw03.ParcelBursts': WHATEVER THE INPUT: true; the input reads as it did. -/
def parcelBurstsSpec : ChangeSpec := { name := "parcelBursts", fn := fun _ => fun
  | [d1, d2, d3] => { results := [.lit (.bool true)], args := [d1, d2, d3] }
  | _ => none }
def parcelBurstsRow : OpenClaim := { program := "ytcikoealneldkaa", sum := "6a6f2fb04661637e9e9a01d3b7a6e9a92370d8d4403728f9a493df6cd221161c", func := "jobber/jobberlaw03.ParcelBursts", spec := "parcelBursts", unfollowed := true, recurses := true, apart := false }
def ParcelBurstsSaid : Prop := parcelBurstsRow.holds Try.pinned (OpenSpec.ofChange parcelBurstsSpec)

/-- ITS FALSE NEIGHBOUR: 'it returns false'. Refute it at one input. -/
def parcelBurstsWrong : ChangeSpec := { name := "parcelBursts", fn := fun _ => fun
  | [d1, d2, d3] => { results := [.lit (.bool false)], args := [d1, d2, d3] }
  | _ => none }
def ParcelBurstsWrongFalsely : Prop := parcelBurstsRow.holds Try.pinned (OpenSpec.ofChange parcelBurstsWrong)

/-- 'jobberlaw03.ParcelTorn': WHATEVER THE INPUT: true; the input reads as it did. -/
def parcelTornSpec : ChangeSpec := { name := "parcelTorn", fn := fun _ => fun
  | [d1, d2] => { results := [.lit (.bool true)], args := [d1, d2] }
  | _ => none }
def parcelTornRow : OpenClaim := { program := "ytcikoealneldkaa", sum := "6a6f2fb04661637e9e9a01d3b7a6e9a92370d8d4403728f9a493df6cd221161c", func := "jobber/jobberlaw03.ParcelTorn", spec := "parcelTorn", unfollowed := true, recurses := true, apart := false }
def ParcelTornSaid : Prop := parcelTornRow.holds Try.pinned (OpenSpec.ofChange parcelTornSpec)

/-- ITS FALSE NEIGHBOUR: 'it returns false'. Refute it at one input. -/
def parcelTornWrong : ChangeSpec := { name := "parcelTorn", fn := fun _ => fun
  | [d1, d2] => { results := [.lit (.bool false)], args := [d1, d2] }
  | _ => none }
def ParcelTornWrongFalsely : Prop := parcelTornRow.holds Try.pinned (OpenSpec.ofChange parcelTornWrong)

/-- 'jobberlaw03.ParcelRows': WHATEVER THE INPUT: true; the input reads as it did. -/
def parcelRowsSpec : ChangeSpec := { name := "parcelRows", fn := fun _ => fun
  | [d] => { results := [.lit (.bool true)], args := [d] }
  | _ => none }
def parcelRowsRow : OpenClaim := { program := "ytcikoealneldkaa", sum := "6a6f2fb04661637e9e9a01d3b7a6e9a92370d8d4403728f9a493df6cd221161c", func := "jobber/jobberlaw03.ParcelRows", spec := "parcelRows", unfollowed := true, recurses := true, apart := false }
def ParcelRowsSaid : Prop := parcelRowsRow.holds Try.pinned (OpenSpec.ofChange parcelRowsSpec)

/-- ITS FALSE NEIGHBOUR: 'it returns false'. Refute it at one input. -/
def parcelRowsWrong : ChangeSpec := { name := "parcelRows", fn := fun _ => fun
  | [d] => { results := [.lit (.bool false)], args := [d] }
  | _ => none }
def ParcelRowsWrongFalsely : Prop := parcelRowsRow.holds Try.pinned (OpenSpec.ofChange parcelRowsWrong)

/-- 'jobberlaw28.SessionReads': WHATEVER THE INPUT: true; the input reads as it did. -/
def sessionReadsSpec : ChangeSpec := { name := "sessionReads", fn := fun _ => fun
  | [d] => { results := [.lit (.bool true)], args := [d] }
  | _ => none }
def sessionReadsRow : OpenClaim := { program := "ytcikoealneldkaa", sum := "6a6f2fb04661637e9e9a01d3b7a6e9a92370d8d4403728f9a493df6cd221161c", func := "jobber/jobberlaw28.SessionReads", spec := "sessionReads", unfollowed := true, recurses := true, apart := false }
def SessionReadsSaid : Prop := sessionReadsRow.holds Try.pinned (OpenSpec.ofChange sessionReadsSpec)

/-- ITS FALSE NEIGHBOUR: 'it returns false'. Refute it at one input. -/
def sessionReadsWrong : ChangeSpec := { name := "sessionReads", fn := fun _ => fun
  | [d] => { results := [.lit (.bool false)], args := [d] }
  | _ => none }
def SessionReadsWrongFalsely : Prop := sessionReadsRow.holds Try.pinned (OpenSpec.ofChange sessionReadsWrong)

/-- 'jobberlaw28.SessionWrites': WHATEVER THE INPUT: true; the input reads as it did. -/
def sessionWritesSpec : ChangeSpec := { name := "sessionWrites", fn := fun _ => fun
  | [d] => { results := [.lit (.bool true)], args := [d] }
  | _ => none }
def sessionWritesRow : OpenClaim := { program := "ytcikoealneldkaa", sum := "6a6f2fb04661637e9e9a01d3b7a6e9a92370d8d4403728f9a493df6cd221161c", func := "jobber/jobberlaw28.SessionWrites", spec := "sessionWrites", unfollowed := true, recurses := true, apart := false }
def SessionWritesSaid : Prop := sessionWritesRow.holds Try.pinned (OpenSpec.ofChange sessionWritesSpec)

/-- ITS FALSE NEIGHBOUR: 'it returns false'. Refute it at one input. -/
def sessionWritesWrong : ChangeSpec := { name := "sessionWrites", fn := fun _ => fun
  | [d] => { results := [.lit (.bool false)], args := [d] }
  | _ => none }
def SessionWritesWrongFalsely : Prop := sessionWritesRow.holds Try.pinned (OpenSpec.ofChange sessionWritesWrong)

/-- 'jobberlaw20.CommandWrites': WHATEVER THE INPUT: true; the input reads as it did. -/
def commandWritesSpec : ChangeSpec := { name := "commandWrites", fn := fun _ => fun
  | [d] => { results := [.lit (.bool true)], args := [d] }
  | _ => none }
def commandWritesRow : OpenClaim := { program := "ytcikoealneldkaa", sum := "6a6f2fb04661637e9e9a01d3b7a6e9a92370d8d4403728f9a493df6cd221161c", func := "jobber/jobberlaw20.CommandWrites", spec := "commandWrites", unfollowed := true, recurses := true, apart := false }
def CommandWritesSaid : Prop := commandWritesRow.holds Try.pinned (OpenSpec.ofChange commandWritesSpec)

/-- ITS FALSE NEIGHBOUR: 'it returns false'. Refute it at one input. -/
def commandWritesWrong : ChangeSpec := { name := "commandWrites", fn := fun _ => fun
  | [d] => { results := [.lit (.bool false)], args := [d] }
  | _ => none }
def CommandWritesWrongFalsely : Prop := commandWritesRow.holds Try.pinned (OpenSpec.ofChange commandWritesWrong)

/-- 'jobberlaw20.CommandReads': WHATEVER THE INPUT: true; the input reads as it did. -/
def commandReadsSpec : ChangeSpec := { name := "commandReads", fn := fun _ => fun
  | [d] => { results := [.lit (.bool true)], args := [d] }
  | _ => none }
def commandReadsRow : OpenClaim := { program := "ytcikoealneldkaa", sum := "6a6f2fb04661637e9e9a01d3b7a6e9a92370d8d4403728f9a493df6cd221161c", func := "jobber/jobberlaw20.CommandReads", spec := "commandReads", unfollowed := true, recurses := true, apart := false }
def CommandReadsSaid : Prop := commandReadsRow.holds Try.pinned (OpenSpec.ofChange commandReadsSpec)

/-- ITS FALSE NEIGHBOUR: 'it returns false'. Refute it at one input. -/
def commandReadsWrong : ChangeSpec := { name := "commandReads", fn := fun _ => fun
  | [d] => { results := [.lit (.bool false)], args := [d] }
  | _ => none }
def CommandReadsWrongFalsely : Prop := commandReadsRow.holds Try.pinned (OpenSpec.ofChange commandReadsWrong)

/-- 'jobberlaw20.CommandTells': WHATEVER THE INPUT: true; the input reads as it did. -/
def commandTellsSpec : ChangeSpec := { name := "commandTells", fn := fun _ => fun
  | [d1, d2] => { results := [.lit (.bool true)], args := [d1, d2] }
  | _ => none }
def commandTellsRow : OpenClaim := { program := "ytcikoealneldkaa", sum := "6a6f2fb04661637e9e9a01d3b7a6e9a92370d8d4403728f9a493df6cd221161c", func := "jobber/jobberlaw20.CommandTells", spec := "commandTells", unfollowed := true, recurses := true, apart := false }
def CommandTellsSaid : Prop := commandTellsRow.holds Try.pinned (OpenSpec.ofChange commandTellsSpec)

/-- ITS FALSE NEIGHBOUR: 'it returns false'. Refute it at one input. -/
def commandTellsWrong : ChangeSpec := { name := "commandTells", fn := fun _ => fun
  | [d1, d2] => { results := [.lit (.bool false)], args := [d1, d2] }
  | _ => none }
def CommandTellsWrongFalsely : Prop := commandTellsRow.holds Try.pinned (OpenSpec.ofChange commandTellsWrong)

/- THE SECOND FORM. 'bulk': how many values and letters a reading holds, each counted each time it is reached (what is shared counts as often as it is met; a slice's spare places count too). A statement '..UptoSaid' is the law's where the arguments, and the package variables that the reading takes, are together of bulk at most 1048576: NARROWER than '..Said'. Prove '..Said' where nothing that the law and all that it calls make is longer than what came in: it says more and counts as full. Else prove '..UptoSaid'. A law counts once. -/
mutual
def uptoBulk {H : Type} : DataW H → Nat
  | .lit (.string bytes) => bytes.length + 1
  | .lit _ => 1
  | .nil => 1
  | .ptr d => uptoBulk d + 1
  | .slice elems spare => uptoBulkAll elems + uptoBulkAll spare + 1
  | .agg parts => uptoBulkAll parts + 1
  | .iface _ d => uptoBulk d + 1
  | .map entries => uptoBulkEntries entries + 1
  | .held _ => 1
def uptoBulkAll {H : Type} : List (DataW H) → Nat
  | [] => 0
  | d :: r => uptoBulk d + uptoBulkAll r
def uptoBulkEntries {H : Type} : List (Lit × DataW H) → Nat
  | [] => 0
  | x :: r => uptoBulkEntry x + uptoBulkEntries r
def uptoBulkEntry {H : Type} : Lit × DataW H → Nat
  | (.string bytes, d) => bytes.length + uptoBulk d + 1
  | (_, d) => uptoBulk d + 1
 end
def uptoSmall : (H : Type) → List (DataW H) → Bool := fun _ ds => decide (uptoBulkAll ds ≤ 1048576)
def OpenSpec.upto (s : _root_.Go.ChangeSpec) : _root_.Go.OpenSpec := { _root_.Go.OpenSpec.ofChange s with cond := some uptoSmall }

/-- 'jobberlaw25.AcksPlay', WHERE WHAT IT READS IS OF BULK AT MOST 1048576: true; the input reads as it did. -/
def acksPlayUptoRow : OpenClaim := { program := "ytcikoealneldkaa", sum := "6a6f2fb04661637e9e9a01d3b7a6e9a92370d8d4403728f9a493df6cd221161c", func := "jobber/jobberlaw25.AcksPlay", spec := "acksPlay", apart := false, narrowed := true }
def AcksPlayUptoSaid : Prop := acksPlayUptoRow.holds Try.pinned (OpenSpec.upto acksPlaySpec)

/-- 'jobberlaw02.CodecWrites', WHERE WHAT IT READS IS OF BULK AT MOST 1048576: true; the input reads as it did. -/
def codecWritesUptoRow : OpenClaim := { program := "ytcikoealneldkaa", sum := "6a6f2fb04661637e9e9a01d3b7a6e9a92370d8d4403728f9a493df6cd221161c", func := "jobber/jobberlaw02.CodecWrites", spec := "codecWrites", recurses := true, apart := false, narrowed := true }
def CodecWritesUptoSaid : Prop := codecWritesUptoRow.holds Try.pinned (OpenSpec.upto codecWritesSpec)

/-- 'jobberlaw28.SessionNobody', WHERE WHAT IT READS IS OF BULK AT MOST 1048576: true; the input reads as it did. -/
def sessionNobodyUptoRow : OpenClaim := { program := "ytcikoealneldkaa", sum := "6a6f2fb04661637e9e9a01d3b7a6e9a92370d8d4403728f9a493df6cd221161c", func := "jobber/jobberlaw28.SessionNobody", spec := "sessionNobody", apart := false, narrowed := true }
def SessionNobodyUptoSaid : Prop := sessionNobodyUptoRow.holds Try.pinned (OpenSpec.upto sessionNobodySpec)

/-- 'jobberlaw02.CodecReads', WHERE WHAT IT READS IS OF BULK AT MOST 1048576: true; the input reads as it did. -/
def codecReadsUptoRow : OpenClaim := { program := "ytcikoealneldkaa", sum := "6a6f2fb04661637e9e9a01d3b7a6e9a92370d8d4403728f9a493df6cd221161c", func := "jobber/jobberlaw02.CodecReads", spec := "codecReads", unfollowed := true, recurses := true, apart := false, narrowed := true }
def CodecReadsUptoSaid : Prop := codecReadsUptoRow.holds Try.pinned (OpenSpec.upto codecReadsSpec)

/-- 'jobberlaw31.DiskLasts', WHERE WHAT IT READS IS OF BULK AT MOST 1048576: true; the input reads as it did. -/
def diskLastsUptoRow : OpenClaim := { program := "ytcikoealneldkaa", sum := "6a6f2fb04661637e9e9a01d3b7a6e9a92370d8d4403728f9a493df6cd221161c", func := "jobber/jobberlaw31.DiskLasts", spec := "diskLasts", unfollowed := true, recurses := true, apart := false, narrowed := true }
def DiskLastsUptoSaid : Prop := diskLastsUptoRow.holds Try.pinned (OpenSpec.upto diskLastsSpec)

/-- 'jobberlaw31.DiskTorn', WHERE WHAT IT READS IS OF BULK AT MOST 1048576: true; the input reads as it did. -/
def diskTornUptoRow : OpenClaim := { program := "ytcikoealneldkaa", sum := "6a6f2fb04661637e9e9a01d3b7a6e9a92370d8d4403728f9a493df6cd221161c", func := "jobber/jobberlaw31.DiskTorn", spec := "diskTorn", unfollowed := true, recurses := true, apart := false, narrowed := true }
def DiskTornUptoSaid : Prop := diskTornUptoRow.holds Try.pinned (OpenSpec.upto diskTornSpec)

/-- 'jobberlaw02.CodecBack', WHERE WHAT IT READS IS OF BULK AT MOST 1048576: true; the input reads as it did. -/
def codecBackUptoRow : OpenClaim := { program := "ytcikoealneldkaa", sum := "6a6f2fb04661637e9e9a01d3b7a6e9a92370d8d4403728f9a493df6cd221161c", func := "jobber/jobberlaw02.CodecBack", spec := "codecBack", unfollowed := true, recurses := true, apart := false, narrowed := true }
def CodecBackUptoSaid : Prop := codecBackUptoRow.holds Try.pinned (OpenSpec.upto codecBackSpec)

/-- 'jobberlaw02.CodecOnce', WHERE WHAT IT READS IS OF BULK AT MOST 1048576: true; the input reads as it did. -/
def codecOnceUptoRow : OpenClaim := { program := "ytcikoealneldkaa", sum := "6a6f2fb04661637e9e9a01d3b7a6e9a92370d8d4403728f9a493df6cd221161c", func := "jobber/jobberlaw02.CodecOnce", spec := "codecOnce", unfollowed := true, recurses := true, apart := false, narrowed := true }
def CodecOnceUptoSaid : Prop := codecOnceUptoRow.holds Try.pinned (OpenSpec.upto codecOnceSpec)

/-- 'jobberlaw02.CodecNobody', WHERE WHAT IT READS IS OF BULK AT MOST 1048576: true; the input reads as it did. -/
def codecNobodyUptoRow : OpenClaim := { program := "ytcikoealneldkaa", sum := "6a6f2fb04661637e9e9a01d3b7a6e9a92370d8d4403728f9a493df6cd221161c", func := "jobber/jobberlaw02.CodecNobody", spec := "codecNobody", unfollowed := true, recurses := true, apart := false, narrowed := true }
def CodecNobodyUptoSaid : Prop := codecNobodyUptoRow.holds Try.pinned (OpenSpec.upto codecNobodySpec)

/-- 'jobberlaw25.AcksWrite', WHERE WHAT IT READS IS OF BULK AT MOST 1048576: true; the input reads as it did. -/
def acksWriteUptoRow : OpenClaim := { program := "ytcikoealneldkaa", sum := "6a6f2fb04661637e9e9a01d3b7a6e9a92370d8d4403728f9a493df6cd221161c", func := "jobber/jobberlaw25.AcksWrite", spec := "acksWrite", unfollowed := true, recurses := true, apart := false, narrowed := true }
def AcksWriteUptoSaid : Prop := acksWriteUptoRow.holds Try.pinned (OpenSpec.upto acksWriteSpec)

/-- 'jobberlaw25.AcksRead', WHERE WHAT IT READS IS OF BULK AT MOST 1048576: true; the input reads as it did. -/
def acksReadUptoRow : OpenClaim := { program := "ytcikoealneldkaa", sum := "6a6f2fb04661637e9e9a01d3b7a6e9a92370d8d4403728f9a493df6cd221161c", func := "jobber/jobberlaw25.AcksRead", spec := "acksRead", unfollowed := true, recurses := true, apart := false, narrowed := true }
def AcksReadUptoSaid : Prop := acksReadUptoRow.holds Try.pinned (OpenSpec.upto acksReadSpec)

/-- 'jobberlaw31.DiskPlays', WHERE WHAT IT READS IS OF BULK AT MOST 1048576: true; the input reads as it did. -/
def diskPlaysUptoRow : OpenClaim := { program := "ytcikoealneldkaa", sum := "6a6f2fb04661637e9e9a01d3b7a6e9a92370d8d4403728f9a493df6cd221161c", func := "jobber/jobberlaw31.DiskPlays", spec := "diskPlays", unfollowed := true, recurses := true, apart := false, narrowed := true }
def DiskPlaysUptoSaid : Prop := diskPlaysUptoRow.holds Try.pinned (OpenSpec.upto diskPlaysSpec)

/-- 'jobberlaw31.DiskNobody', WHERE WHAT IT READS IS OF BULK AT MOST 1048576: true; the input reads as it did. -/
def diskNobodyUptoRow : OpenClaim := { program := "ytcikoealneldkaa", sum := "6a6f2fb04661637e9e9a01d3b7a6e9a92370d8d4403728f9a493df6cd221161c", func := "jobber/jobberlaw31.DiskNobody", spec := "diskNobody", unfollowed := true, recurses := true, apart := false, narrowed := true }
def DiskNobodyUptoSaid : Prop := diskNobodyUptoRow.holds Try.pinned (OpenSpec.upto diskNobodySpec)

/-- 'jobberlaw21.EventWrites', WHERE WHAT IT READS IS OF BULK AT MOST 1048576: true; the input reads as it did. -/
def eventWritesUptoRow : OpenClaim := { program := "ytcikoealneldkaa", sum := "6a6f2fb04661637e9e9a01d3b7a6e9a92370d8d4403728f9a493df6cd221161c", func := "jobber/jobberlaw21.EventWrites", spec := "eventWrites", unfollowed := true, recurses := true, apart := false, narrowed := true }
def EventWritesUptoSaid : Prop := eventWritesUptoRow.holds Try.pinned (OpenSpec.upto eventWritesSpec)

/-- 'jobberlaw21.EventReads', WHERE WHAT IT READS IS OF BULK AT MOST 1048576: true; the input reads as it did. -/
def eventReadsUptoRow : OpenClaim := { program := "ytcikoealneldkaa", sum := "6a6f2fb04661637e9e9a01d3b7a6e9a92370d8d4403728f9a493df6cd221161c", func := "jobber/jobberlaw21.EventReads", spec := "eventReads", unfollowed := true, recurses := true, apart := false, narrowed := true }
def EventReadsUptoSaid : Prop := eventReadsUptoRow.holds Try.pinned (OpenSpec.upto eventReadsSpec)

/-- 'jobberlaw21.EventTells', WHERE WHAT IT READS IS OF BULK AT MOST 1048576: true; the input reads as it did. -/
def eventTellsUptoRow : OpenClaim := { program := "ytcikoealneldkaa", sum := "6a6f2fb04661637e9e9a01d3b7a6e9a92370d8d4403728f9a493df6cd221161c", func := "jobber/jobberlaw21.EventTells", spec := "eventTells", unfollowed := true, recurses := true, apart := false, narrowed := true }
def EventTellsUptoSaid : Prop := eventTellsUptoRow.holds Try.pinned (OpenSpec.upto eventTellsSpec)

/-- 'jobberlaw03.ParcelWraps', WHERE WHAT IT READS IS OF BULK AT MOST 1048576: true; the input reads as it did. -/
def parcelWrapsUptoRow : OpenClaim := { program := "ytcikoealneldkaa", sum := "6a6f2fb04661637e9e9a01d3b7a6e9a92370d8d4403728f9a493df6cd221161c", func := "jobber/jobberlaw03.ParcelWraps", spec := "parcelWraps", unfollowed := true, recurses := true, apart := false, narrowed := true }
def ParcelWrapsUptoSaid : Prop := parcelWrapsUptoRow.holds Try.pinned (OpenSpec.upto parcelWrapsSpec)

/-- 'jobberlaw03.ParcelTakes', WHERE WHAT IT READS IS OF BULK AT MOST 1048576: true; the input reads as it did. -/
def parcelTakesUptoRow : OpenClaim := { program := "ytcikoealneldkaa", sum := "6a6f2fb04661637e9e9a01d3b7a6e9a92370d8d4403728f9a493df6cd221161c", func := "jobber/jobberlaw03.ParcelTakes", spec := "parcelTakes", unfollowed := true, recurses := true, apart := false, narrowed := true }
def ParcelTakesUptoSaid : Prop := parcelTakesUptoRow.holds Try.pinned (OpenSpec.upto parcelTakesSpec)

/-- 'jobberlaw03.ParcelBursts', WHERE WHAT IT READS IS OF BULK AT MOST 1048576: true; the input reads as it did. -/
def parcelBurstsUptoRow : OpenClaim := { program := "ytcikoealneldkaa", sum := "6a6f2fb04661637e9e9a01d3b7a6e9a92370d8d4403728f9a493df6cd221161c", func := "jobber/jobberlaw03.ParcelBursts", spec := "parcelBursts", unfollowed := true, recurses := true, apart := false, narrowed := true }
def ParcelBurstsUptoSaid : Prop := parcelBurstsUptoRow.holds Try.pinned (OpenSpec.upto parcelBurstsSpec)

/-- 'jobberlaw03.ParcelTorn', WHERE WHAT IT READS IS OF BULK AT MOST 1048576: true; the input reads as it did. -/
def parcelTornUptoRow : OpenClaim := { program := "ytcikoealneldkaa", sum := "6a6f2fb04661637e9e9a01d3b7a6e9a92370d8d4403728f9a493df6cd221161c", func := "jobber/jobberlaw03.ParcelTorn", spec := "parcelTorn", unfollowed := true, recurses := true, apart := false, narrowed := true }
def ParcelTornUptoSaid : Prop := parcelTornUptoRow.holds Try.pinned (OpenSpec.upto parcelTornSpec)

/-- 'jobberlaw03.ParcelRows', WHERE WHAT IT READS IS OF BULK AT MOST 1048576: true; the input reads as it did. -/
def parcelRowsUptoRow : OpenClaim := { program := "ytcikoealneldkaa", sum := "6a6f2fb04661637e9e9a01d3b7a6e9a92370d8d4403728f9a493df6cd221161c", func := "jobber/jobberlaw03.ParcelRows", spec := "parcelRows", unfollowed := true, recurses := true, apart := false, narrowed := true }
def ParcelRowsUptoSaid : Prop := parcelRowsUptoRow.holds Try.pinned (OpenSpec.upto parcelRowsSpec)

/-- 'jobberlaw28.SessionReads', WHERE WHAT IT READS IS OF BULK AT MOST 1048576: true; the input reads as it did. -/
def sessionReadsUptoRow : OpenClaim := { program := "ytcikoealneldkaa", sum := "6a6f2fb04661637e9e9a01d3b7a6e9a92370d8d4403728f9a493df6cd221161c", func := "jobber/jobberlaw28.SessionReads", spec := "sessionReads", unfollowed := true, recurses := true, apart := false, narrowed := true }
def SessionReadsUptoSaid : Prop := sessionReadsUptoRow.holds Try.pinned (OpenSpec.upto sessionReadsSpec)

/-- 'jobberlaw28.SessionWrites', WHERE WHAT IT READS IS OF BULK AT MOST 1048576: true; the input reads as it did. -/
def sessionWritesUptoRow : OpenClaim := { program := "ytcikoealneldkaa", sum := "6a6f2fb04661637e9e9a01d3b7a6e9a92370d8d4403728f9a493df6cd221161c", func := "jobber/jobberlaw28.SessionWrites", spec := "sessionWrites", unfollowed := true, recurses := true, apart := false, narrowed := true }
def SessionWritesUptoSaid : Prop := sessionWritesUptoRow.holds Try.pinned (OpenSpec.upto sessionWritesSpec)

/-- 'jobberlaw20.CommandWrites', WHERE WHAT IT READS IS OF BULK AT MOST 1048576: true; the input reads as it did. -/
def commandWritesUptoRow : OpenClaim := { program := "ytcikoealneldkaa", sum := "6a6f2fb04661637e9e9a01d3b7a6e9a92370d8d4403728f9a493df6cd221161c", func := "jobber/jobberlaw20.CommandWrites", spec := "commandWrites", unfollowed := true, recurses := true, apart := false, narrowed := true }
def CommandWritesUptoSaid : Prop := commandWritesUptoRow.holds Try.pinned (OpenSpec.upto commandWritesSpec)

/-- 'jobberlaw20.CommandReads', WHERE WHAT IT READS IS OF BULK AT MOST 1048576: true; the input reads as it did. -/
def commandReadsUptoRow : OpenClaim := { program := "ytcikoealneldkaa", sum := "6a6f2fb04661637e9e9a01d3b7a6e9a92370d8d4403728f9a493df6cd221161c", func := "jobber/jobberlaw20.CommandReads", spec := "commandReads", unfollowed := true, recurses := true, apart := false, narrowed := true }
def CommandReadsUptoSaid : Prop := commandReadsUptoRow.holds Try.pinned (OpenSpec.upto commandReadsSpec)

/-- 'jobberlaw20.CommandTells', WHERE WHAT IT READS IS OF BULK AT MOST 1048576: true; the input reads as it did. -/
def commandTellsUptoRow : OpenClaim := { program := "ytcikoealneldkaa", sum := "6a6f2fb04661637e9e9a01d3b7a6e9a92370d8d4403728f9a493df6cd221161c", func := "jobber/jobberlaw20.CommandTells", spec := "commandTells", unfollowed := true, recurses := true, apart := false, narrowed := true }
def CommandTellsUptoSaid : Prop := commandTellsUptoRow.holds Try.pinned (OpenSpec.upto commandTellsSpec)

end Rows
end Go.Proofs.Ytcikoealneldkaa
