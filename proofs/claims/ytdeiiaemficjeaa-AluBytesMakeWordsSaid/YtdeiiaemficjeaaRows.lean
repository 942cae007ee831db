/-
  No cell of these rows narrows 'for every input' (looked for: loops, veiled, ifaces, maps, wideKeys, modest, calm, conditions, laid).
  DERIVED. THE GIVEN ROWS OF THIS SEAT. 7 by the template 'for every input the law returns true; each argument reads behind the call as it read before'; 0 by the template 'total and deterministic' (their statements: YtdeiiaemficjeaaTotals.lean).
  GIVEN WITH THE SEED: the statements are not yours to turn. If you find one false, say at which input.
  Laid BY PROGRAM, IN A SANDBOX (cutbox-rows.mjs): the forced cells as the released guide's own fill.sh prints them over the translation e0c104c8c70e1b14… (all of the seat's roots in one cut). By AI agents, Wed Nov 11 2026. No macro, syntax, notation, axiom, sorry.
-/
import Derived.Test.YtdeiiaemficjeaaChecked
import GoSem.Claim
import GoSem.ClaimJoined
import GoSem.ClaimMapViews
import Derived.JoinedTies
import Derived.KernelRfl
namespace Go.Proofs.Ytdeiiaemficjeaa
/- THE CELL 'sum', in the pinned program and in every row, IS THE sha256 OF THE DUMP (.gsa) THAT YtdeiiaemficjeaaProg.lean LOADS. Nothing in Lean hashes anything: it is a label: what it is worth is what the hold of that sum in a sandbox is worth. -/
noncomputable def Try.pinned : Pinned := { name := "ytdeiiaemficjeaa", sum := "e0c104c8c70e1b145ea620554f315c9f5d3e59ca6ba4c64bc74ac2a259dc1fda", checked := Try.checked }
namespace Rows
def none {H : Type} : Left H := { results := [], args := [] }

/-- 'simulacrumlaw05.AluDoesAsSpecified': WHATEVER THE INPUT: true; the input reads as it did. -/
def aluDoesAsSpecifiedSpec : ChangeSpec := { name := "aluDoesAsSpecified", fn := fun _ => fun
  | [d1, d2, d3] => { results := [.lit (.bool true)], args := [d1, d2, d3] }
  | _ => none }
def aluDoesAsSpecifiedRow : OpenClaim := { program := "ytdeiiaemficjeaa", sum := "e0c104c8c70e1b145ea620554f315c9f5d3e59ca6ba4c64bc74ac2a259dc1fda", func := "simulacrum/simulacrumlaw05.AluDoesAsSpecified", spec := "aluDoesAsSpecified", unfollowed := true, recurses := true, apart := false }
def AluDoesAsSpecifiedSaid : Prop := aluDoesAsSpecifiedRow.holds Try.pinned (OpenSpec.ofChange aluDoesAsSpecifiedSpec)

/-- ITS FALSE NEIGHBOUR: 'it returns false'. Refute it at one input. -/
def aluDoesAsSpecifiedWrong : ChangeSpec := { name := "aluDoesAsSpecified", fn := fun _ => fun
  | [d1, d2, d3] => { results := [.lit (.bool false)], args := [d1, d2, d3] }
  | _ => none }
def AluDoesAsSpecifiedWrongFalsely : Prop := aluDoesAsSpecifiedRow.holds Try.pinned (OpenSpec.ofChange aluDoesAsSpecifiedWrong)

/-- 'simulacrumlaw05.AluReadsAsSpecified': WHATEVER THE INPUT: true; the input reads as it did. -/
def aluReadsAsSpecifiedSpec : ChangeSpec := { name := "aluReadsAsSpecified", fn := fun _ => fun
  | [d1, d2, d3, d4] => { results := [.lit (.bool true)], args := [d1, d2, d3, d4] }
  | _ => none }
def aluReadsAsSpecifiedRow : OpenClaim := { program := "ytdeiiaemficjeaa", sum := "e0c104c8c70e1b145ea620554f315c9f5d3e59ca6ba4c64bc74ac2a259dc1fda", func := "simulacrum/simulacrumlaw05.AluReadsAsSpecified", spec := "aluReadsAsSpecified", unfollowed := true, recurses := true, apart := false }
def AluReadsAsSpecifiedSaid : Prop := aluReadsAsSpecifiedRow.holds Try.pinned (OpenSpec.ofChange aluReadsAsSpecifiedSpec)

/-- ITS FALSE NEIGHBOUR: 'it returns false'. Refute it at one input. -/
def aluReadsAsSpecifiedWrong : ChangeSpec := { name := "aluReadsAsSpecified", fn := fun _ => fun
  | [d1, d2, d3, d4] => { results := [.lit (.bool false)], args := [d1, d2, d3, d4] }
  | _ => none }
def AluReadsAsSpecifiedWrongFalsely : Prop := aluReadsAsSpecifiedRow.holds Try.pinned (OpenSpec.ofChange aluReadsAsSpecifiedWrong)

/-- 'simulacrumlaw05.AluIsARing': WHATEVER THE INPUT: true; the input reads as it did. -/
def aluIsARingSpec : ChangeSpec := { name := "aluIsARing", fn := fun _ => fun
  | [d1, d2, d3] => { results := [.lit (.bool true)], args := [d1, d2, d3] }
  | _ => none }
def aluIsARingRow : OpenClaim := { program := "ytdeiiaemficjeaa", sum := "e0c104c8c70e1b145ea620554f315c9f5d3e59ca6ba4c64bc74ac2a259dc1fda", func := "simulacrum/simulacrumlaw05.AluIsARing", spec := "aluIsARing", unfollowed := true, recurses := true, apart := false }
def AluIsARingSaid : Prop := aluIsARingRow.holds Try.pinned (OpenSpec.ofChange aluIsARingSpec)

/-- ITS FALSE NEIGHBOUR: 'it returns false'. Refute it at one input. -/
def aluIsARingWrong : ChangeSpec := { name := "aluIsARing", fn := fun _ => fun
  | [d1, d2, d3] => { results := [.lit (.bool false)], args := [d1, d2, d3] }
  | _ => none }
def AluIsARingWrongFalsely : Prop := aluIsARingRow.holds Try.pinned (OpenSpec.ofChange aluIsARingWrong)

/-- 'simulacrumlaw05.AluIsALattice': WHATEVER THE INPUT: true; the input reads as it did. -/
def aluIsALatticeSpec : ChangeSpec := { name := "aluIsALattice", fn := fun _ => fun
  | [d1, d2, d3] => { results := [.lit (.bool true)], args := [d1, d2, d3] }
  | _ => none }
def aluIsALatticeRow : OpenClaim := { program := "ytdeiiaemficjeaa", sum := "e0c104c8c70e1b145ea620554f315c9f5d3e59ca6ba4c64bc74ac2a259dc1fda", func := "simulacrum/simulacrumlaw05.AluIsALattice", spec := "aluIsALattice", unfollowed := true, recurses := true, apart := false }
def AluIsALatticeSaid : Prop := aluIsALatticeRow.holds Try.pinned (OpenSpec.ofChange aluIsALatticeSpec)

/-- ITS FALSE NEIGHBOUR: 'it returns false'. Refute it at one input. -/
def aluIsALatticeWrong : ChangeSpec := { name := "aluIsALattice", fn := fun _ => fun
  | [d1, d2, d3] => { results := [.lit (.bool false)], args := [d1, d2, d3] }
  | _ => none }
def AluIsALatticeWrongFalsely : Prop := aluIsALatticeRow.holds Try.pinned (OpenSpec.ofChange aluIsALatticeWrong)

/-- 'simulacrumlaw05.AluDivides': WHATEVER THE INPUT: true; the input reads as it did. -/
def aluDividesSpec : ChangeSpec := { name := "aluDivides", fn := fun _ => fun
  | [d1, d2, d3] => { results := [.lit (.bool true)], args := [d1, d2, d3] }
  | _ => none }
def aluDividesRow : OpenClaim := { program := "ytdeiiaemficjeaa", sum := "e0c104c8c70e1b145ea620554f315c9f5d3e59ca6ba4c64bc74ac2a259dc1fda", func := "simulacrum/simulacrumlaw05.AluDivides", spec := "aluDivides", unfollowed := true, recurses := true, apart := false }
def AluDividesSaid : Prop := aluDividesRow.holds Try.pinned (OpenSpec.ofChange aluDividesSpec)

/-- ITS FALSE NEIGHBOUR: 'it returns false'. Refute it at one input. -/
def aluDividesWrong : ChangeSpec := { name := "aluDivides", fn := fun _ => fun
  | [d1, d2, d3] => { results := [.lit (.bool false)], args := [d1, d2, d3] }
  | _ => none }
def AluDividesWrongFalsely : Prop := aluDividesRow.holds Try.pinned (OpenSpec.ofChange aluDividesWrong)

/-- 'simulacrumlaw05.AluOrders': WHATEVER THE INPUT: true; the input reads as it did. -/
def aluOrdersSpec : ChangeSpec := { name := "aluOrders", fn := fun _ => fun
  | [d1, d2, d3] => { results := [.lit (.bool true)], args := [d1, d2, d3] }
  | _ => none }
def aluOrdersRow : OpenClaim := { program := "ytdeiiaemficjeaa", sum := "e0c104c8c70e1b145ea620554f315c9f5d3e59ca6ba4c64bc74ac2a259dc1fda", func := "simulacrum/simulacrumlaw05.AluOrders", spec := "aluOrders", unfollowed := true, recurses := true, apart := false }
def AluOrdersSaid : Prop := aluOrdersRow.holds Try.pinned (OpenSpec.ofChange aluOrdersSpec)

/-- ITS FALSE NEIGHBOUR: 'it returns false'. Refute it at one input. -/
def aluOrdersWrong : ChangeSpec := { name := "aluOrders", fn := fun _ => fun
  | [d1, d2, d3] => { results := [.lit (.bool false)], args := [d1, d2, d3] }
  | _ => none }
def AluOrdersWrongFalsely : Prop := aluOrdersRow.holds Try.pinned (OpenSpec.ofChange aluOrdersWrong)

/-- 'simulacrumlaw05.AluBytesMakeWords': WHATEVER THE INPUT: true; the input reads as it did. -/
def aluBytesMakeWordsSpec : ChangeSpec := { name := "aluBytesMakeWords", fn := fun _ => fun
  | [d1, d2, d3, d4] => { results := [.lit (.bool true)], args := [d1, d2, d3, d4] }
  | _ => none }
def aluBytesMakeWordsRow : OpenClaim := { program := "ytdeiiaemficjeaa", sum := "e0c104c8c70e1b145ea620554f315c9f5d3e59ca6ba4c64bc74ac2a259dc1fda", func := "simulacrum/simulacrumlaw05.AluBytesMakeWords", spec := "aluBytesMakeWords", unfollowed := true, recurses := true, apart := false }
def AluBytesMakeWordsSaid : Prop := aluBytesMakeWordsRow.holds Try.pinned (OpenSpec.ofChange aluBytesMakeWordsSpec)

/-- ITS FALSE NEIGHBOUR: 'it returns false'. Refute it at one input. -/
def aluBytesMakeWordsWrong : ChangeSpec := { name := "aluBytesMakeWords", fn := fun _ => fun
  | [d1, d2, d3, d4] => { results := [.lit (.bool false)], args := [d1, d2, d3, d4] }
  | _ => none }
def AluBytesMakeWordsWrongFalsely : Prop := aluBytesMakeWordsRow.holds Try.pinned (OpenSpec.ofChange aluBytesMakeWordsWrong)

/- THE SECOND FORM. 'bulk': how many values and letters a reading holds, each counted each time it is reached (what is shared counts as often as it is met; a slice's spare places count too). A statement '..UptoSaid' is the law's where the arguments, and the package variables that the reading takes, are together of bulk at most 1048576: NARROWER than '..Said'. Prove '..Said' where nothing that the law and all that it calls make is longer than what came in: it says more and counts as full. Else prove '..UptoSaid'. A law counts once. -/
mutual
def uptoBulk {H : Type} : DataW H → Nat
  | .lit (.string bytes) => bytes.length + 1
  | .lit _ => 1
  | .nil => 1
  | .ptr d => uptoBulk d + 1
  | .slice elems spare => uptoBulkAll elems + uptoBulkAll spare + 1
  | .agg parts => uptoBulkAll parts + 1
  | .iface _ d => uptoBulk d + 1
  | .map entries => uptoBulkEntries entries + 1
  | .held _ => 1
def uptoBulkAll {H : Type} : List (DataW H) → Nat
  | [] => 0
  | d :: r => uptoBulk d + uptoBulkAll r
def uptoBulkEntries {H : Type} : List (Lit × DataW H) → Nat
  | [] => 0
  | x :: r => uptoBulkEntry x + uptoBulkEntries r
def uptoBulkEntry {H : Type} : Lit × DataW H → Nat
  | (.string bytes, d) => bytes.length + uptoBulk d + 1
  | (_, d) => uptoBulk d + 1
 end
def uptoSmall : (H : Type) → List (DataW H) → Bool := fun _ ds => decide (uptoBulkAll ds ≤ 1048576)
def OpenSpec.upto (s : _root_.Go.ChangeSpec) : _root_.Go.OpenSpec := { _root_.Go.OpenSpec.ofChange s with cond := some uptoSmall }

/-- 'simulacrumlaw05.AluDoesAsSpecified', WHERE WHAT IT READS IS OF BULK AT MOST 1048576: true; the input reads as it did. -/
def aluDoesAsSpecifiedUptoRow : OpenClaim := { program := "ytdeiiaemficjeaa", sum := "e0c104c8c70e1b145ea620554f315c9f5d3e59ca6ba4c64bc74ac2a259dc1fda", func := "simulacrum/simulacrumlaw05.AluDoesAsSpecified", spec := "aluDoesAsSpecified", unfollowed := true, recurses := true, apart := false, narrowed := true }
def AluDoesAsSpecifiedUptoSaid : Prop := aluDoesAsSpecifiedUptoRow.holds Try.pinned (OpenSpec.upto aluDoesAsSpecifiedSpec)

/-- 'simulacrumlaw05.AluReadsAsSpecified', WHERE WHAT IT READS IS OF BULK AT MOST 1048576: true; the input reads as it did. -/
def aluReadsAsSpecifiedUptoRow : OpenClaim := { program := "ytdeiiaemficjeaa", sum := "e0c104c8c70e1b145ea620554f315c9f5d3e59ca6ba4c64bc74ac2a259dc1fda", func := "simulacrum/simulacrumlaw05.AluReadsAsSpecified", spec := "aluReadsAsSpecified", unfollowed := true, recurses := true, apart := false, narrowed := true }
def AluReadsAsSpecifiedUptoSaid : Prop := aluReadsAsSpecifiedUptoRow.holds Try.pinned (OpenSpec.upto aluReadsAsSpecifiedSpec)

/-- 'simulacrumlaw05.AluIsARing', WHERE WHAT IT READS IS OF BULK AT MOST 1048576: true; the input reads as it did. -/
def aluIsARingUptoRow : OpenClaim := { program := "ytdeiiaemficjeaa", sum := "e0c104c8c70e1b145ea620554f315c9f5d3e59ca6ba4c64bc74ac2a259dc1fda", func := "simulacrum/simulacrumlaw05.AluIsARing", spec := "aluIsARing", unfollowed := true, recurses := true, apart := false, narrowed := true }
def AluIsARingUptoSaid : Prop := aluIsARingUptoRow.holds Try.pinned (OpenSpec.upto aluIsARingSpec)

/-- 'simulacrumlaw05.AluIsALattice', WHERE WHAT IT READS IS OF BULK AT MOST 1048576: true; the input reads as it did. -/
def aluIsALatticeUptoRow : OpenClaim := { program := "ytdeiiaemficjeaa", sum := "e0c104c8c70e1b145ea620554f315c9f5d3e59ca6ba4c64bc74ac2a259dc1fda", func := "simulacrum/simulacrumlaw05.AluIsALattice", spec := "aluIsALattice", unfollowed := true, recurses := true, apart := false, narrowed := true }
def AluIsALatticeUptoSaid : Prop := aluIsALatticeUptoRow.holds Try.pinned (OpenSpec.upto aluIsALatticeSpec)

/-- 'simulacrumlaw05.AluDivides', WHERE WHAT IT READS IS OF BULK AT MOST 1048576: true; the input reads as it did. -/
def aluDividesUptoRow : OpenClaim := { program := "ytdeiiaemficjeaa", sum := "e0c104c8c70e1b145ea620554f315c9f5d3e59ca6ba4c64bc74ac2a259dc1fda", func := "simulacrum/simulacrumlaw05.AluDivides", spec := "aluDivides", unfollowed := true, recurses := true, apart := false, narrowed := true }
def AluDividesUptoSaid : Prop := aluDividesUptoRow.holds Try.pinned (OpenSpec.upto aluDividesSpec)

/-- 'simulacrumlaw05.AluOrders', WHERE WHAT IT READS IS OF BULK AT MOST 1048576: true; the input reads as it did. -/
def aluOrdersUptoRow : OpenClaim := { program := "ytdeiiaemficjeaa", sum := "e0c104c8c70e1b145ea620554f315c9f5d3e59ca6ba4c64bc74ac2a259dc1fda", func := "simulacrum/simulacrumlaw05.AluOrders", spec := "aluOrders", unfollowed := true, recurses := true, apart := false, narrowed := true }
def AluOrdersUptoSaid : Prop := aluOrdersUptoRow.holds Try.pinned (OpenSpec.upto aluOrdersSpec)

/-- 'simulacrumlaw05.AluBytesMakeWords', WHERE WHAT IT READS IS OF BULK AT MOST 1048576: true; the input reads as it did. -/
def aluBytesMakeWordsUptoRow : OpenClaim := { program := "ytdeiiaemficjeaa", sum := "e0c104c8c70e1b145ea620554f315c9f5d3e59ca6ba4c64bc74ac2a259dc1fda", func := "simulacrum/simulacrumlaw05.AluBytesMakeWords", spec := "aluBytesMakeWords", unfollowed := true, recurses := true, apart := false, narrowed := true }
def AluBytesMakeWordsUptoSaid : Prop := aluBytesMakeWordsUptoRow.holds Try.pinned (OpenSpec.upto aluBytesMakeWordsSpec)

end Rows
end Go.Proofs.Ytdeiiaemficjeaa
