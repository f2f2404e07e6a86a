/-
  No cell of these rows narrows 'for every input' (looked for: loops, veiled, ifaces, maps, wideKeys, modest, calm, conditions, laid).
  DERIVED. THE GIVEN ROWS OF THIS SEAT. 12 by the template 'for every input the law returns true; each argument reads behind the call as it read before'; 0 by the template 'total and deterministic' (their statements: YtmgobaojioaioaaTotals.lean).
  GIVEN WITH THE SEED: the statements are not yours to turn. If you find one false, say at which input.
  Laid BY PROGRAM, IN A SANDBOX (cutbox-rows.mjs): the forced cells as the released guide's own fill.sh prints them over the translation 09c7276f191fe1e6… (all of the seat's roots in one cut). By AI agents, Wed Nov 11 2026. No macro, syntax, notation, axiom, sorry.
-/
import Derived.Test.YtmgobaojioaioaaChecked
import GoSem.Claim
import GoSem.ClaimJoined
import GoSem.ClaimMapViews
import Derived.JoinedTies
import Derived.KernelRfl
namespace Go.Proofs.Ytmgobaojioaioaa
/- THE CELL 'sum', in the pinned program and in every row, IS THE sha256 OF THE DUMP (.gsa) THAT YtmgobaojioaioaaProg.lean LOADS. Nothing in Lean hashes anything: it is a label: what it is worth is what the hold of that sum in a sandbox is worth. -/
noncomputable def Try.pinned : Pinned := { name := "ytmgobaojioaioaa", sum := "09c7276f191fe1e6f321b768e1688383af745ed60a9e2a7faa27161b7366d0d0", checked := Try.checked }
namespace Rows
def none {H : Type} : Left H := { results := [], args := [] }

/-- 'jobberlaw26.VersionAgreed': WHATEVER THE INPUT: true; the input reads as it did. -/
def versionAgreedSpec : ChangeSpec := { name := "versionAgreed", fn := fun _ => fun
  | [d1, d2] => { results := [.lit (.bool true)], args := [d1, d2] }
  | _ => none }
def versionAgreedRow : OpenClaim := { program := "ytmgobaojioaioaa", sum := "09c7276f191fe1e6f321b768e1688383af745ed60a9e2a7faa27161b7366d0d0", func := "jobber/jobberlaw26.VersionAgreed", spec := "versionAgreed", apart := false }
def VersionAgreedSaid : Prop := versionAgreedRow.holds Try.pinned (OpenSpec.ofChange versionAgreedSpec)

/-- ITS FALSE NEIGHBOUR: 'it returns false'. Refute it at one input. -/
def versionAgreedWrong : ChangeSpec := { name := "versionAgreed", fn := fun _ => fun
  | [d1, d2] => { results := [.lit (.bool false)], args := [d1, d2] }
  | _ => none }
def VersionAgreedWrongFalsely : Prop := versionAgreedRow.holds Try.pinned (OpenSpec.ofChange versionAgreedWrong)

/-- 'jobberlaw26.VersionSound': WHATEVER THE INPUT: true; the input reads as it did. -/
def versionSoundSpec : ChangeSpec := { name := "versionSound", fn := fun _ => fun
  | [d1, d2, d3] => { results := [.lit (.bool true)], args := [d1, d2, d3] }
  | _ => none }
def versionSoundRow : OpenClaim := { program := "ytmgobaojioaioaa", sum := "09c7276f191fe1e6f321b768e1688383af745ed60a9e2a7faa27161b7366d0d0", func := "jobber/jobberlaw26.VersionSound", spec := "versionSound", apart := false }
def VersionSoundSaid : Prop := versionSoundRow.holds Try.pinned (OpenSpec.ofChange versionSoundSpec)

/-- ITS FALSE NEIGHBOUR: 'it returns false'. Refute it at one input. -/
def versionSoundWrong : ChangeSpec := { name := "versionSound", fn := fun _ => fun
  | [d1, d2, d3] => { results := [.lit (.bool false)], args := [d1, d2, d3] }
  | _ => none }
def VersionSoundWrongFalsely : Prop := versionSoundRow.holds Try.pinned (OpenSpec.ofChange versionSoundWrong)

/-- 'jobberlaw26.VersionTells': WHATEVER THE INPUT: true; the input reads as it did. -/
def versionTellsSpec : ChangeSpec := { name := "versionTells", fn := fun _ => fun
  | [d1, d2, d3] => { results := [.lit (.bool true)], args := [d1, d2, d3] }
  | _ => none }
def versionTellsRow : OpenClaim := { program := "ytmgobaojioaioaa", sum := "09c7276f191fe1e6f321b768e1688383af745ed60a9e2a7faa27161b7366d0d0", func := "jobber/jobberlaw26.VersionTells", spec := "versionTells", apart := false }
def VersionTellsSaid : Prop := versionTellsRow.holds Try.pinned (OpenSpec.ofChange versionTellsSpec)

/-- ITS FALSE NEIGHBOUR: 'it returns false'. Refute it at one input. -/
def versionTellsWrong : ChangeSpec := { name := "versionTells", fn := fun _ => fun
  | [d1, d2, d3] => { results := [.lit (.bool false)], args := [d1, d2, d3] }
  | _ => none }
def VersionTellsWrongFalsely : Prop := versionTellsRow.holds Try.pinned (OpenSpec.ofChange versionTellsWrong)

/-- 'jobberlaw26.VersionBytes': WHATEVER THE INPUT: true; the input reads as it did. -/
def versionBytesSpec : ChangeSpec := { name := "versionBytes", fn := fun _ => fun
  | [d1, d2] => { results := [.lit (.bool true)], args := [d1, d2] }
  | _ => none }
def versionBytesRow : OpenClaim := { program := "ytmgobaojioaioaa", sum := "09c7276f191fe1e6f321b768e1688383af745ed60a9e2a7faa27161b7366d0d0", func := "jobber/jobberlaw26.VersionBytes", spec := "versionBytes", unfollowed := true, recurses := true, apart := false }
def VersionBytesSaid : Prop := versionBytesRow.holds Try.pinned (OpenSpec.ofChange versionBytesSpec)

/-- ITS FALSE NEIGHBOUR: 'it returns false'. Refute it at one input. -/
def versionBytesWrong : ChangeSpec := { name := "versionBytes", fn := fun _ => fun
  | [d1, d2] => { results := [.lit (.bool false)], args := [d1, d2] }
  | _ => none }
def VersionBytesWrongFalsely : Prop := versionBytesRow.holds Try.pinned (OpenSpec.ofChange versionBytesWrong)

/-- 'jobberlaw20.CommandWrites': WHATEVER THE INPUT: true; the input reads as it did. -/
def commandWritesSpec : ChangeSpec := { name := "commandWrites", fn := fun _ => fun
  | [d] => { results := [.lit (.bool true)], args := [d] }
  | _ => none }
def commandWritesRow : OpenClaim := { program := "ytmgobaojioaioaa", sum := "09c7276f191fe1e6f321b768e1688383af745ed60a9e2a7faa27161b7366d0d0", func := "jobber/jobberlaw20.CommandWrites", spec := "commandWrites", unfollowed := true, recurses := true, apart := false }
def CommandWritesSaid : Prop := commandWritesRow.holds Try.pinned (OpenSpec.ofChange commandWritesSpec)

/-- ITS FALSE NEIGHBOUR: 'it returns false'. Refute it at one input. -/
def commandWritesWrong : ChangeSpec := { name := "commandWrites", fn := fun _ => fun
  | [d] => { results := [.lit (.bool false)], args := [d] }
  | _ => none }
def CommandWritesWrongFalsely : Prop := commandWritesRow.holds Try.pinned (OpenSpec.ofChange commandWritesWrong)

/-- 'jobberlaw20.CommandReads': WHATEVER THE INPUT: true; the input reads as it did. -/
def commandReadsSpec : ChangeSpec := { name := "commandReads", fn := fun _ => fun
  | [d] => { results := [.lit (.bool true)], args := [d] }
  | _ => none }
def commandReadsRow : OpenClaim := { program := "ytmgobaojioaioaa", sum := "09c7276f191fe1e6f321b768e1688383af745ed60a9e2a7faa27161b7366d0d0", func := "jobber/jobberlaw20.CommandReads", spec := "commandReads", unfollowed := true, recurses := true, apart := false }
def CommandReadsSaid : Prop := commandReadsRow.holds Try.pinned (OpenSpec.ofChange commandReadsSpec)

/-- ITS FALSE NEIGHBOUR: 'it returns false'. Refute it at one input. -/
def commandReadsWrong : ChangeSpec := { name := "commandReads", fn := fun _ => fun
  | [d] => { results := [.lit (.bool false)], args := [d] }
  | _ => none }
def CommandReadsWrongFalsely : Prop := commandReadsRow.holds Try.pinned (OpenSpec.ofChange commandReadsWrong)

/-- 'jobberlaw20.CommandTells': WHATEVER THE INPUT: true; the input reads as it did. -/
def commandTellsSpec : ChangeSpec := { name := "commandTells", fn := fun _ => fun
  | [d1, d2] => { results := [.lit (.bool true)], args := [d1, d2] }
  | _ => none }
def commandTellsRow : OpenClaim := { program := "ytmgobaojioaioaa", sum := "09c7276f191fe1e6f321b768e1688383af745ed60a9e2a7faa27161b7366d0d0", func := "jobber/jobberlaw20.CommandTells", spec := "commandTells", unfollowed := true, recurses := true, apart := false }
def CommandTellsSaid : Prop := commandTellsRow.holds Try.pinned (OpenSpec.ofChange commandTellsSpec)

/-- ITS FALSE NEIGHBOUR: 'it returns false'. Refute it at one input. -/
def commandTellsWrong : ChangeSpec := { name := "commandTells", fn := fun _ => fun
  | [d1, d2] => { results := [.lit (.bool false)], args := [d1, d2] }
  | _ => none }
def CommandTellsWrongFalsely : Prop := commandTellsRow.holds Try.pinned (OpenSpec.ofChange commandTellsWrong)

/-- 'jobberlaw10.RegistryPlays': WHATEVER THE INPUT: true; the input reads as it did. -/
def registryPlaysSpec : ChangeSpec := { name := "registryPlays", fn := fun _ => fun
  | [d1, d2, d3] => { results := [.lit (.bool true)], args := [d1, d2, d3] }
  | _ => none }
def registryPlaysRow : OpenClaim := { program := "ytmgobaojioaioaa", sum := "09c7276f191fe1e6f321b768e1688383af745ed60a9e2a7faa27161b7366d0d0", func := "jobber/jobberlaw10.RegistryPlays", spec := "registryPlays", inPlace := ["maps.clone"], unfollowed := true, recurses := true, apart := false }
def RegistryPlaysSaid : Prop := registryPlaysRow.holds Try.pinned (OpenSpec.ofChange registryPlaysSpec)

/-- ITS FALSE NEIGHBOUR: 'it returns false'. Refute it at one input. -/
def registryPlaysWrong : ChangeSpec := { name := "registryPlays", fn := fun _ => fun
  | [d1, d2, d3] => { results := [.lit (.bool false)], args := [d1, d2, d3] }
  | _ => none }
def RegistryPlaysWrongFalsely : Prop := registryPlaysRow.holds Try.pinned (OpenSpec.ofChange registryPlaysWrong)

/-- 'jobberlaw10.RegistryNobody': WHATEVER THE INPUT: true; the input reads as it did. -/
def registryNobodySpec : ChangeSpec := { name := "registryNobody", fn := fun _ => fun
  | [d1, d2] => { results := [.lit (.bool true)], args := [d1, d2] }
  | _ => none }
def registryNobodyRow : OpenClaim := { program := "ytmgobaojioaioaa", sum := "09c7276f191fe1e6f321b768e1688383af745ed60a9e2a7faa27161b7366d0d0", func := "jobber/jobberlaw10.RegistryNobody", spec := "registryNobody", inPlace := ["maps.clone"], unfollowed := true, recurses := true, apart := false }
def RegistryNobodySaid : Prop := registryNobodyRow.holds Try.pinned (OpenSpec.ofChange registryNobodySpec)

/-- ITS FALSE NEIGHBOUR: 'it returns false'. Refute it at one input. -/
def registryNobodyWrong : ChangeSpec := { name := "registryNobody", fn := fun _ => fun
  | [d1, d2] => { results := [.lit (.bool false)], args := [d1, d2] }
  | _ => none }
def RegistryNobodyWrongFalsely : Prop := registryNobodyRow.holds Try.pinned (OpenSpec.ofChange registryNobodyWrong)

/-- 'jobberlaw10.RegistryReads': WHATEVER THE INPUT: true; the input reads as it did. -/
def registryReadsSpec : ChangeSpec := { name := "registryReads", fn := fun _ => fun
  | [d] => { results := [.lit (.bool true)], args := [d] }
  | _ => none }
def registryReadsRow : OpenClaim := { program := "ytmgobaojioaioaa", sum := "09c7276f191fe1e6f321b768e1688383af745ed60a9e2a7faa27161b7366d0d0", func := "jobber/jobberlaw10.RegistryReads", spec := "registryReads", unfollowed := true, recurses := true, apart := false }
def RegistryReadsSaid : Prop := registryReadsRow.holds Try.pinned (OpenSpec.ofChange registryReadsSpec)

/-- ITS FALSE NEIGHBOUR: 'it returns false'. Refute it at one input. -/
def registryReadsWrong : ChangeSpec := { name := "registryReads", fn := fun _ => fun
  | [d] => { results := [.lit (.bool false)], args := [d] }
  | _ => none }
def RegistryReadsWrongFalsely : Prop := registryReadsRow.holds Try.pinned (OpenSpec.ofChange registryReadsWrong)

/-- 'jobberlaw10.RegistryWrites': WHATEVER THE INPUT: true; the input reads as it did. -/
def registryWritesSpec : ChangeSpec := { name := "registryWrites", fn := fun _ => fun
  | [d1, d2] => { results := [.lit (.bool true)], args := [d1, d2] }
  | _ => none }
def registryWritesRow : OpenClaim := { program := "ytmgobaojioaioaa", sum := "09c7276f191fe1e6f321b768e1688383af745ed60a9e2a7faa27161b7366d0d0", func := "jobber/jobberlaw10.RegistryWrites", spec := "registryWrites", unfollowed := true, recurses := true, apart := false }
def RegistryWritesSaid : Prop := registryWritesRow.holds Try.pinned (OpenSpec.ofChange registryWritesSpec)

/-- ITS FALSE NEIGHBOUR: 'it returns false'. Refute it at one input. -/
def registryWritesWrong : ChangeSpec := { name := "registryWrites", fn := fun _ => fun
  | [d1, d2] => { results := [.lit (.bool false)], args := [d1, d2] }
  | _ => none }
def RegistryWritesWrongFalsely : Prop := registryWritesRow.holds Try.pinned (OpenSpec.ofChange registryWritesWrong)

/-- 'jobberlaw26.VersionPlays': WHATEVER THE INPUT: true; the input reads as it did. -/
def versionPlaysSpec : ChangeSpec := { name := "versionPlays", fn := fun _ => fun
  | [d1, d2] => { results := [.lit (.bool true)], args := [d1, d2] }
  | _ => none }
def versionPlaysRow : OpenClaim := { program := "ytmgobaojioaioaa", sum := "09c7276f191fe1e6f321b768e1688383af745ed60a9e2a7faa27161b7366d0d0", func := "jobber/jobberlaw26.VersionPlays", spec := "versionPlays", unfollowed := true, recurses := true, apart := false }
def VersionPlaysSaid : Prop := versionPlaysRow.holds Try.pinned (OpenSpec.ofChange versionPlaysSpec)

/-- ITS FALSE NEIGHBOUR: 'it returns false'. Refute it at one input. -/
def versionPlaysWrong : ChangeSpec := { name := "versionPlays", fn := fun _ => fun
  | [d1, d2] => { results := [.lit (.bool false)], args := [d1, d2] }
  | _ => none }
def VersionPlaysWrongFalsely : Prop := versionPlaysRow.holds Try.pinned (OpenSpec.ofChange versionPlaysWrong)

/- THE SECOND FORM. 'bulk': how many values and letters a reading holds, each counted each time it is reached (what is shared counts as often as it is met; a slice's spare places count too). A statement '..UptoSaid' is the law's where the arguments, and the package variables that the reading takes, are together of bulk at most 1048576: NARROWER than '..Said'. Prove '..Said' where nothing that the law and all that it calls make is longer than what came in: it says more and counts as full. Else prove '..UptoSaid'. A law counts once. -/
mutual
def uptoBulk {H : Type} : DataW H → Nat
  | .lit (.string bytes) => bytes.length + 1
  | .lit _ => 1
  | .nil => 1
  | .ptr d => uptoBulk d + 1
  | .slice elems spare => uptoBulkAll elems + uptoBulkAll spare + 1
  | .agg parts => uptoBulkAll parts + 1
  | .iface _ d => uptoBulk d + 1
  | .map entries => uptoBulkEntries entries + 1
  | .held _ => 1
def uptoBulkAll {H : Type} : List (DataW H) → Nat
  | [] => 0
  | d :: r => uptoBulk d + uptoBulkAll r
def uptoBulkEntries {H : Type} : List (Lit × DataW H) → Nat
  | [] => 0
  | x :: r => uptoBulkEntry x + uptoBulkEntries r
def uptoBulkEntry {H : Type} : Lit × DataW H → Nat
  | (.string bytes, d) => bytes.length + uptoBulk d + 1
  | (_, d) => uptoBulk d + 1
 end
def uptoSmall : (H : Type) → List (DataW H) → Bool := fun _ ds => decide (uptoBulkAll ds ≤ 1048576)
def OpenSpec.upto (s : _root_.Go.ChangeSpec) : _root_.Go.OpenSpec := { _root_.Go.OpenSpec.ofChange s with cond := some uptoSmall }

/-- 'jobberlaw26.VersionAgreed', WHERE WHAT IT READS IS OF BULK AT MOST 1048576: true; the input reads as it did. -/
def versionAgreedUptoRow : OpenClaim := { program := "ytmgobaojioaioaa", sum := "09c7276f191fe1e6f321b768e1688383af745ed60a9e2a7faa27161b7366d0d0", func := "jobber/jobberlaw26.VersionAgreed", spec := "versionAgreed", apart := false, narrowed := true }
def VersionAgreedUptoSaid : Prop := versionAgreedUptoRow.holds Try.pinned (OpenSpec.upto versionAgreedSpec)

/-- 'jobberlaw26.VersionSound', WHERE WHAT IT READS IS OF BULK AT MOST 1048576: true; the input reads as it did. -/
def versionSoundUptoRow : OpenClaim := { program := "ytmgobaojioaioaa", sum := "09c7276f191fe1e6f321b768e1688383af745ed60a9e2a7faa27161b7366d0d0", func := "jobber/jobberlaw26.VersionSound", spec := "versionSound", apart := false, narrowed := true }
def VersionSoundUptoSaid : Prop := versionSoundUptoRow.holds Try.pinned (OpenSpec.upto versionSoundSpec)

/-- 'jobberlaw26.VersionTells', WHERE WHAT IT READS IS OF BULK AT MOST 1048576: true; the input reads as it did. -/
def versionTellsUptoRow : OpenClaim := { program := "ytmgobaojioaioaa", sum := "09c7276f191fe1e6f321b768e1688383af745ed60a9e2a7faa27161b7366d0d0", func := "jobber/jobberlaw26.VersionTells", spec := "versionTells", apart := false, narrowed := true }
def VersionTellsUptoSaid : Prop := versionTellsUptoRow.holds Try.pinned (OpenSpec.upto versionTellsSpec)

/-- 'jobberlaw26.VersionBytes', WHERE WHAT IT READS IS OF BULK AT MOST 1048576: true; the input reads as it did. -/
def versionBytesUptoRow : OpenClaim := { program := "ytmgobaojioaioaa", sum := "09c7276f191fe1e6f321b768e1688383af745ed60a9e2a7faa27161b7366d0d0", func := "jobber/jobberlaw26.VersionBytes", spec := "versionBytes", unfollowed := true, recurses := true, apart := false, narrowed := true }
def VersionBytesUptoSaid : Prop := versionBytesUptoRow.holds Try.pinned (OpenSpec.upto versionBytesSpec)

/-- 'jobberlaw20.CommandWrites', WHERE WHAT IT READS IS OF BULK AT MOST 1048576: true; the input reads as it did. -/
def commandWritesUptoRow : OpenClaim := { program := "ytmgobaojioaioaa", sum := "09c7276f191fe1e6f321b768e1688383af745ed60a9e2a7faa27161b7366d0d0", func := "jobber/jobberlaw20.CommandWrites", spec := "commandWrites", unfollowed := true, recurses := true, apart := false, narrowed := true }
def CommandWritesUptoSaid : Prop := commandWritesUptoRow.holds Try.pinned (OpenSpec.upto commandWritesSpec)

/-- 'jobberlaw20.CommandReads', WHERE WHAT IT READS IS OF BULK AT MOST 1048576: true; the input reads as it did. -/
def commandReadsUptoRow : OpenClaim := { program := "ytmgobaojioaioaa", sum := "09c7276f191fe1e6f321b768e1688383af745ed60a9e2a7faa27161b7366d0d0", func := "jobber/jobberlaw20.CommandReads", spec := "commandReads", unfollowed := true, recurses := true, apart := false, narrowed := true }
def CommandReadsUptoSaid : Prop := commandReadsUptoRow.holds Try.pinned (OpenSpec.upto commandReadsSpec)

/-- 'jobberlaw20.CommandTells', WHERE WHAT IT READS IS OF BULK AT MOST 1048576: true; the input reads as it did. -/
def commandTellsUptoRow : OpenClaim := { program := "ytmgobaojioaioaa", sum := "09c7276f191fe1e6f321b768e1688383af745ed60a9e2a7faa27161b7366d0d0", func := "jobber/jobberlaw20.CommandTells", spec := "commandTells", unfollowed := true, recurses := true, apart := false, narrowed := true }
def CommandTellsUptoSaid : Prop := commandTellsUptoRow.holds Try.pinned (OpenSpec.upto commandTellsSpec)

/-- 'jobberlaw10.RegistryPlays', WHERE WHAT IT READS IS OF BULK AT MOST 1048576: true; the input reads as it did. -/
def registryPlaysUptoRow : OpenClaim := { program := "ytmgobaojioaioaa", sum := "09c7276f191fe1e6f321b768e1688383af745ed60a9e2a7faa27161b7366d0d0", func := "jobber/jobberlaw10.RegistryPlays", spec := "registryPlays", inPlace := ["maps.clone"], unfollowed := true, recurses := true, apart := false, narrowed := true }
def RegistryPlaysUptoSaid : Prop := registryPlaysUptoRow.holds Try.pinned (OpenSpec.upto registryPlaysSpec)

/-- 'jobberlaw10.RegistryNobody', WHERE WHAT IT READS IS OF BULK AT MOST 1048576: true; the input reads as it did. -/
def registryNobodyUptoRow : OpenClaim := { program := "ytmgobaojioaioaa", sum := "09c7276f191fe1e6f321b768e1688383af745ed60a9e2a7faa27161b7366d0d0", func := "jobber/jobberlaw10.RegistryNobody", spec := "registryNobody", inPlace := ["maps.clone"], unfollowed := true, recurses := true, apart := false, narrowed := true }
def RegistryNobodyUptoSaid : Prop := registryNobodyUptoRow.holds Try.pinned (OpenSpec.upto registryNobodySpec)

/-- 'jobberlaw10.RegistryReads', WHERE WHAT IT READS IS OF BULK AT MOST 1048576: true; the input reads as it did. -/
def registryReadsUptoRow : OpenClaim := { program := "ytmgobaojioaioaa", sum := "09c7276f191fe1e6f321b768e1688383af745ed60a9e2a7faa27161b7366d0d0", func := "jobber/jobberlaw10.RegistryReads", spec := "registryReads", unfollowed := true, recurses := true, apart := false, narrowed := true }
def RegistryReadsUptoSaid : Prop := registryReadsUptoRow.holds Try.pinned (OpenSpec.upto registryReadsSpec)

/-- 'jobberlaw10.RegistryWrites', WHERE WHAT IT READS IS OF BULK AT MOST 1048576: true; the input reads as it did. -/
def registryWritesUptoRow : OpenClaim := { program := "ytmgobaojioaioaa", sum := "09c7276f191fe1e6f321b768e1688383af745ed60a9e2a7faa27161b7366d0d0", func := "jobber/jobberlaw10.RegistryWrites", spec := "registryWrites", unfollowed := true, recurses := true, apart := false, narrowed := true }
def RegistryWritesUptoSaid : Prop := registryWritesUptoRow.holds Try.pinned (OpenSpec.upto registryWritesSpec)

/-- 'jobberlaw26.VersionPlays', WHERE WHAT IT READS IS OF BULK AT MOST 1048576: true; the input reads as it did. -/
def versionPlaysUptoRow : OpenClaim := { program := "ytmgobaojioaioaa", sum := "09c7276f191fe1e6f321b768e1688383af745ed60a9e2a7faa27161b7366d0d0", func := "jobber/jobberlaw26.VersionPlays", spec := "versionPlays", unfollowed := true, recurses := true, apart := false, narrowed := true }
def VersionPlaysUptoSaid : Prop := versionPlaysUptoRow.holds Try.pinned (OpenSpec.upto versionPlaysSpec)

end Rows
end Go.Proofs.Ytmgobaojioaioaa
