/-
  No cell of these rows narrows 'for every input' (looked for: loops, veiled, ifaces, maps, wideKeys, modest, calm, conditions, laid).
  DERIVED. THE GIVEN ROWS OF THIS SEAT. 6 by the template 'for every input the law returns true; each argument reads behind the call as it read before'; 0 by the template 'total and deterministic' (their statements: YtglfkdbfiipjjaaTotals.lean).
  GIVEN WITH THE SEED: the statements are not yours to turn. If you find one false, say at which input.
  Laid BY PROGRAM, IN A SANDBOX (cutbox-rows.mjs): the forced cells as the released guide's own fill.sh prints them over the translation 88381858d0ceed32… (all of the seat's roots in one cut). By AI agents, Wed Nov 11 2026. No macro, syntax, notation, axiom, sorry.
-/
import Derived.Test.YtglfkdbfiipjjaaChecked
import GoSem.Claim
import GoSem.ClaimJoined
import GoSem.ClaimMapViews
import Derived.JoinedTies
import Derived.KernelRfl
namespace Go.Proofs.Ytglfkdbfiipjjaa
/- THE CELL 'sum', in the pinned program and in every row, IS THE sha256 OF THE DUMP (.gsa) THAT YtglfkdbfiipjjaaProg.lean LOADS. Nothing in Lean hashes anything: it is a label: what it is worth is what the hold of that sum in a sandbox is worth. -/
noncomputable def Try.pinned : Pinned := { name := "ytglfkdbfiipjjaa", sum := "88381858d0ceed321400ba65e6b2ded662e63c37f9b85518f86e0ffebb9e7111", checked := Try.checked }
namespace Rows
def none {H : Type} : Left H := { results := [], args := [] }

/-- 'simulacrumlaw06.MemoryStoresAsSpecified': WHATEVER THE INPUT: true; the input reads as it did. -/
def memoryStoresAsSpecifiedSpec : ChangeSpec := { name := "memoryStoresAsSpecified", fn := fun _ => fun
  | [d1, d2, d3, d4] => { results := [.lit (.bool true)], args := [d1, d2, d3, d4] }
  | _ => none }
def memoryStoresAsSpecifiedRow : OpenClaim := { program := "ytglfkdbfiipjjaa", sum := "88381858d0ceed321400ba65e6b2ded662e63c37f9b85518f86e0ffebb9e7111", func := "simulacrum/simulacrumlaw06.MemoryStoresAsSpecified", spec := "memoryStoresAsSpecified", unfollowed := true, recurses := true, apart := false }
def MemoryStoresAsSpecifiedSaid : Prop := memoryStoresAsSpecifiedRow.holds Try.pinned (OpenSpec.ofChange memoryStoresAsSpecifiedSpec)

/-- ITS FALSE NEIGHBOUR: 'it returns false'. Refute it at one input. -/
def memoryStoresAsSpecifiedWrong : ChangeSpec := { name := "memoryStoresAsSpecified", fn := fun _ => fun
  | [d1, d2, d3, d4] => { results := [.lit (.bool false)], args := [d1, d2, d3, d4] }
  | _ => none }
def MemoryStoresAsSpecifiedWrongFalsely : Prop := memoryStoresAsSpecifiedRow.holds Try.pinned (OpenSpec.ofChange memoryStoresAsSpecifiedWrong)

/-- 'simulacrumlaw06.MemoryKeepsWhatIsStored': WHATEVER THE INPUT: true; the input reads as it did. -/
def memoryKeepsWhatIsStoredSpec : ChangeSpec := { name := "memoryKeepsWhatIsStored", fn := fun _ => fun
  | [d1, d2, d3, d4] => { results := [.lit (.bool true)], args := [d1, d2, d3, d4] }
  | _ => none }
def memoryKeepsWhatIsStoredRow : OpenClaim := { program := "ytglfkdbfiipjjaa", sum := "88381858d0ceed321400ba65e6b2ded662e63c37f9b85518f86e0ffebb9e7111", func := "simulacrum/simulacrumlaw06.MemoryKeepsWhatIsStored", spec := "memoryKeepsWhatIsStored", unfollowed := true, recurses := true, apart := false }
def MemoryKeepsWhatIsStoredSaid : Prop := memoryKeepsWhatIsStoredRow.holds Try.pinned (OpenSpec.ofChange memoryKeepsWhatIsStoredSpec)

/-- ITS FALSE NEIGHBOUR: 'it returns false'. Refute it at one input. -/
def memoryKeepsWhatIsStoredWrong : ChangeSpec := { name := "memoryKeepsWhatIsStored", fn := fun _ => fun
  | [d1, d2, d3, d4] => { results := [.lit (.bool false)], args := [d1, d2, d3, d4] }
  | _ => none }
def MemoryKeepsWhatIsStoredWrongFalsely : Prop := memoryKeepsWhatIsStoredRow.holds Try.pinned (OpenSpec.ofChange memoryKeepsWhatIsStoredWrong)

/-- 'simulacrumlaw06.MemoryDiffs': WHATEVER THE INPUT: true; the input reads as it did. -/
def memoryDiffsSpec : ChangeSpec := { name := "memoryDiffs", fn := fun _ => fun
  | [d1, d2, d3] => { results := [.lit (.bool true)], args := [d1, d2, d3] }
  | _ => none }
def memoryDiffsRow : OpenClaim := { program := "ytglfkdbfiipjjaa", sum := "88381858d0ceed321400ba65e6b2ded662e63c37f9b85518f86e0ffebb9e7111", func := "simulacrum/simulacrumlaw06.MemoryDiffs", spec := "memoryDiffs", unfollowed := true, recurses := true, apart := false }
def MemoryDiffsSaid : Prop := memoryDiffsRow.holds Try.pinned (OpenSpec.ofChange memoryDiffsSpec)

/-- ITS FALSE NEIGHBOUR: 'it returns false'. Refute it at one input. -/
def memoryDiffsWrong : ChangeSpec := { name := "memoryDiffs", fn := fun _ => fun
  | [d1, d2, d3] => { results := [.lit (.bool false)], args := [d1, d2, d3] }
  | _ => none }
def MemoryDiffsWrongFalsely : Prop := memoryDiffsRow.holds Try.pinned (OpenSpec.ofChange memoryDiffsWrong)

/-- 'simulacrumlaw06.MemoryMovesAsSpecified': WHATEVER THE INPUT: true; the input reads as it did. -/
def memoryMovesAsSpecifiedSpec : ChangeSpec := { name := "memoryMovesAsSpecified", fn := fun _ => fun
  | [d1, d2, d3, d4, d5, d6, d7] => { results := [.lit (.bool true)], args := [d1, d2, d3, d4, d5, d6, d7] }
  | _ => none }
def memoryMovesAsSpecifiedRow : OpenClaim := { program := "ytglfkdbfiipjjaa", sum := "88381858d0ceed321400ba65e6b2ded662e63c37f9b85518f86e0ffebb9e7111", func := "simulacrum/simulacrumlaw06.MemoryMovesAsSpecified", spec := "memoryMovesAsSpecified", unfollowed := true, recurses := true, apart := false }
def MemoryMovesAsSpecifiedSaid : Prop := memoryMovesAsSpecifiedRow.holds Try.pinned (OpenSpec.ofChange memoryMovesAsSpecifiedSpec)

/-- ITS FALSE NEIGHBOUR: 'it returns false'. Refute it at one input. -/
def memoryMovesAsSpecifiedWrong : ChangeSpec := { name := "memoryMovesAsSpecified", fn := fun _ => fun
  | [d1, d2, d3, d4, d5, d6, d7] => { results := [.lit (.bool false)], args := [d1, d2, d3, d4, d5, d6, d7] }
  | _ => none }
def MemoryMovesAsSpecifiedWrongFalsely : Prop := memoryMovesAsSpecifiedRow.holds Try.pinned (OpenSpec.ofChange memoryMovesAsSpecifiedWrong)

/-- 'simulacrumlaw06.MemoryWordsAreBytes': WHATEVER THE INPUT: true; the input reads as it did. -/
def memoryWordsAreBytesSpec : ChangeSpec := { name := "memoryWordsAreBytes", fn := fun _ => fun
  | [d1, d2, d3] => { results := [.lit (.bool true)], args := [d1, d2, d3] }
  | _ => none }
def memoryWordsAreBytesRow : OpenClaim := { program := "ytglfkdbfiipjjaa", sum := "88381858d0ceed321400ba65e6b2ded662e63c37f9b85518f86e0ffebb9e7111", func := "simulacrum/simulacrumlaw06.MemoryWordsAreBytes", spec := "memoryWordsAreBytes", unfollowed := true, recurses := true, apart := false }
def MemoryWordsAreBytesSaid : Prop := memoryWordsAreBytesRow.holds Try.pinned (OpenSpec.ofChange memoryWordsAreBytesSpec)

/-- ITS FALSE NEIGHBOUR: 'it returns false'. Refute it at one input. -/
def memoryWordsAreBytesWrong : ChangeSpec := { name := "memoryWordsAreBytes", fn := fun _ => fun
  | [d1, d2, d3] => { results := [.lit (.bool false)], args := [d1, d2, d3] }
  | _ => none }
def MemoryWordsAreBytesWrongFalsely : Prop := memoryWordsAreBytesRow.holds Try.pinned (OpenSpec.ofChange memoryWordsAreBytesWrong)

/-- 'simulacrumlaw06.MemoryReadsWhatIsWritten': WHATEVER THE INPUT: true; the input reads as it did. -/
def memoryReadsWhatIsWrittenSpec : ChangeSpec := { name := "memoryReadsWhatIsWritten", fn := fun _ => fun
  | [d1, d2, d3, d4, d5] => { results := [.lit (.bool true)], args := [d1, d2, d3, d4, d5] }
  | _ => none }
def memoryReadsWhatIsWrittenRow : OpenClaim := { program := "ytglfkdbfiipjjaa", sum := "88381858d0ceed321400ba65e6b2ded662e63c37f9b85518f86e0ffebb9e7111", func := "simulacrum/simulacrumlaw06.MemoryReadsWhatIsWritten", spec := "memoryReadsWhatIsWritten", unfollowed := true, recurses := true, apart := false }
def MemoryReadsWhatIsWrittenSaid : Prop := memoryReadsWhatIsWrittenRow.holds Try.pinned (OpenSpec.ofChange memoryReadsWhatIsWrittenSpec)

/-- ITS FALSE NEIGHBOUR: 'it returns false'. Refute it at one input. -/
def memoryReadsWhatIsWrittenWrong : ChangeSpec := { name := "memoryReadsWhatIsWritten", fn := fun _ => fun
  | [d1, d2, d3, d4, d5] => { results := [.lit (.bool false)], args := [d1, d2, d3, d4, d5] }
  | _ => none }
def MemoryReadsWhatIsWrittenWrongFalsely : Prop := memoryReadsWhatIsWrittenRow.holds Try.pinned (OpenSpec.ofChange memoryReadsWhatIsWrittenWrong)

/- THE SECOND FORM. 'bulk': how many values and letters a reading holds, each counted each time it is reached (what is shared counts as often as it is met; a slice's spare places count too). A statement '..UptoSaid' is the law's where the arguments, and the package variables that the reading takes, are together of bulk at most 1048576: NARROWER than '..Said'. Prove '..Said' where nothing that the law and all that it calls make is longer than what came in: it says more and counts as full. Else prove '..UptoSaid'. A law counts once. -/
mutual
def uptoBulk {H : Type} : DataW H → Nat
  | .lit (.string bytes) => bytes.length + 1
  | .lit _ => 1
  | .nil => 1
  | .ptr d => uptoBulk d + 1
  | .slice elems spare => uptoBulkAll elems + uptoBulkAll spare + 1
  | .agg parts => uptoBulkAll parts + 1
  | .iface _ d => uptoBulk d + 1
  | .map entries => uptoBulkEntries entries + 1
  | .held _ => 1
def uptoBulkAll {H : Type} : List (DataW H) → Nat
  | [] => 0
  | d :: r => uptoBulk d + uptoBulkAll r
def uptoBulkEntries {H : Type} : List (Lit × DataW H) → Nat
  | [] => 0
  | x :: r => uptoBulkEntry x + uptoBulkEntries r
def uptoBulkEntry {H : Type} : Lit × DataW H → Nat
  | (.string bytes, d) => bytes.length + uptoBulk d + 1
  | (_, d) => uptoBulk d + 1
 end
def uptoSmall : (H : Type) → List (DataW H) → Bool := fun _ ds => decide (uptoBulkAll ds ≤ 1048576)
def OpenSpec.upto (s : _root_.Go.ChangeSpec) : _root_.Go.OpenSpec := { _root_.Go.OpenSpec.ofChange s with cond := some uptoSmall }

/-- 'simulacrumlaw06.MemoryStoresAsSpecified', WHERE WHAT IT READS IS OF BULK AT MOST 1048576: true; the input reads as it did. -/
def memoryStoresAsSpecifiedUptoRow : OpenClaim := { program := "ytglfkdbfiipjjaa", sum := "88381858d0ceed321400ba65e6b2ded662e63c37f9b85518f86e0ffebb9e7111", func := "simulacrum/simulacrumlaw06.MemoryStoresAsSpecified", spec := "memoryStoresAsSpecified", unfollowed := true, recurses := true, apart := false, narrowed := true }
def MemoryStoresAsSpecifiedUptoSaid : Prop := memoryStoresAsSpecifiedUptoRow.holds Try.pinned (OpenSpec.upto memoryStoresAsSpecifiedSpec)

/-- 'simulacrumlaw06.MemoryKeepsWhatIsStored', WHERE WHAT IT READS IS OF BULK AT MOST 1048576: true; the input reads as it did. -/
def memoryKeepsWhatIsStoredUptoRow : OpenClaim := { program := "ytglfkdbfiipjjaa", sum := "88381858d0ceed321400ba65e6b2ded662e63c37f9b85518f86e0ffebb9e7111", func := "simulacrum/simulacrumlaw06.MemoryKeepsWhatIsStored", spec := "memoryKeepsWhatIsStored", unfollowed := true, recurses := true, apart := false, narrowed := true }
def MemoryKeepsWhatIsStoredUptoSaid : Prop := memoryKeepsWhatIsStoredUptoRow.holds Try.pinned (OpenSpec.upto memoryKeepsWhatIsStoredSpec)

/-- 'simulacrumlaw06.MemoryDiffs', WHERE WHAT IT READS IS OF BULK AT MOST 1048576: true; the input reads as it did. -/
def memoryDiffsUptoRow : OpenClaim := { program := "ytglfkdbfiipjjaa", sum := "88381858d0ceed321400ba65e6b2ded662e63c37f9b85518f86e0ffebb9e7111", func := "simulacrum/simulacrumlaw06.MemoryDiffs", spec := "memoryDiffs", unfollowed := true, recurses := true, apart := false, narrowed := true }
def MemoryDiffsUptoSaid : Prop := memoryDiffsUptoRow.holds Try.pinned (OpenSpec.upto memoryDiffsSpec)

/-- 'simulacrumlaw06.MemoryMovesAsSpecified', WHERE WHAT IT READS IS OF BULK AT MOST 1048576: true; the input reads as it did. -/
def memoryMovesAsSpecifiedUptoRow : OpenClaim := { program := "ytglfkdbfiipjjaa", sum := "88381858d0ceed321400ba65e6b2ded662e63c37f9b85518f86e0ffebb9e7111", func := "simulacrum/simulacrumlaw06.MemoryMovesAsSpecified", spec := "memoryMovesAsSpecified", unfollowed := true, recurses := true, apart := false, narrowed := true }
def MemoryMovesAsSpecifiedUptoSaid : Prop := memoryMovesAsSpecifiedUptoRow.holds Try.pinned (OpenSpec.upto memoryMovesAsSpecifiedSpec)

/-- 'simulacrumlaw06.MemoryWordsAreBytes', WHERE WHAT IT READS IS OF BULK AT MOST 1048576: true; the input reads as it did. -/
def memoryWordsAreBytesUptoRow : OpenClaim := { program := "ytglfkdbfiipjjaa", sum := "88381858d0ceed321400ba65e6b2ded662e63c37f9b85518f86e0ffebb9e7111", func := "simulacrum/simulacrumlaw06.MemoryWordsAreBytes", spec := "memoryWordsAreBytes", unfollowed := true, recurses := true, apart := false, narrowed := true }
def MemoryWordsAreBytesUptoSaid : Prop := memoryWordsAreBytesUptoRow.holds Try.pinned (OpenSpec.upto memoryWordsAreBytesSpec)

/-- 'simulacrumlaw06.MemoryReadsWhatIsWritten', WHERE WHAT IT READS IS OF BULK AT MOST 1048576: true; the input reads as it did. -/
def memoryReadsWhatIsWrittenUptoRow : OpenClaim := { program := "ytglfkdbfiipjjaa", sum := "88381858d0ceed321400ba65e6b2ded662e63c37f9b85518f86e0ffebb9e7111", func := "simulacrum/simulacrumlaw06.MemoryReadsWhatIsWritten", spec := "memoryReadsWhatIsWritten", unfollowed := true, recurses := true, apart := false, narrowed := true }
def MemoryReadsWhatIsWrittenUptoSaid : Prop := memoryReadsWhatIsWrittenUptoRow.holds Try.pinned (OpenSpec.upto memoryReadsWhatIsWrittenSpec)

end Rows
end Go.Proofs.Ytglfkdbfiipjjaa
