/-
  No cell of these rows narrows 'for every input' (looked for: loops, veiled, ifaces, maps, wideKeys, modest, calm, conditions, laid).
  DERIVED. THE GIVEN ROWS OF THIS SEAT. 3 by the template 'for every input the law returns true; each argument reads behind the call as it read before'; 0 by the template 'total and deterministic' (their statements: YtcknhfnbdgleiaaGreatTotals.lean).
  GIVEN WITH THE SEED: the statements are not yours to turn. If you find one false, say at which input.
  Laid BY PROGRAM, IN A SANDBOX (cutbox-rows.mjs): the forced cells as the released guide's own fill.sh prints them over the translation a36ca2bf62f9af9e… (all of the seat's roots in one cut). By AI agents, Wed Nov 11 2026. No macro, syntax, notation, axiom, sorry.
-/
import Derived.Test.YtcknhfnbdgleiaaGreatChecked
import GoSem.Claim
import GoSem.ClaimJoined
import GoSem.ClaimMapViews
import Derived.JoinedTies
import Derived.KernelRfl
namespace Go.Proofs.YtcknhfnbdgleiaaGreat
/- THE CELL 'sum', in the pinned program and in every row, IS THE sha256 OF THE DUMP (.gsa) THAT YtcknhfnbdgleiaaGreatProg.lean LOADS. Nothing in Lean hashes anything: it is a label: what it is worth is what the hold of that sum in a sandbox is worth. -/
noncomputable def Tryz.pinned : Pinned := { name := "ytcknhfnbdgleiaagreat", sum := "a36ca2bf62f9af9eedd9dbefa5eb2d6e9882e23633fcf9ca09a8982ecdbb445d", checked := Tryz.checked }
namespace Rows
def none {H : Type} : Left H := { results := [], args := [] }

/-- 'simulacrumlaw12.CoreStepsAsSpecified': WHATEVER THE INPUT: true; the input reads as it did. -/
def coreStepsAsSpecifiedSpec : ChangeSpec := { name := "coreStepsAsSpecified", fn := fun _ => fun
  | [d1, d2, d3] => { results := [.lit (.bool true)], args := [d1, d2, d3] }
  | _ => none }
def coreStepsAsSpecifiedRow : OpenClaim := { program := "ytcknhfnbdgleiaagreat", sum := "a36ca2bf62f9af9eedd9dbefa5eb2d6e9882e23633fcf9ca09a8982ecdbb445d", func := "simulacrum/simulacrumlaw12.CoreStepsAsSpecified", spec := "coreStepsAsSpecified", unfollowed := true, recurses := true, apart := false }
def CoreStepsAsSpecifiedSaid : Prop := coreStepsAsSpecifiedRow.holds Tryz.pinned (OpenSpec.ofChange coreStepsAsSpecifiedSpec)

/-- ITS FALSE NEIGHBOUR: 'it returns false'. Refute it at one input. -/
def coreStepsAsSpecifiedWrong : ChangeSpec := { name := "coreStepsAsSpecified", fn := fun _ => fun
  | [d1, d2, d3] => { results := [.lit (.bool false)], args := [d1, d2, d3] }
  | _ => none }
def CoreStepsAsSpecifiedWrongFalsely : Prop := coreStepsAsSpecifiedRow.holds Tryz.pinned (OpenSpec.ofChange coreStepsAsSpecifiedWrong)

/-- 'simulacrumlaw12.CoreAnswersAsSpecified': WHATEVER THE INPUT: true; the input reads as it did. -/
def coreAnswersAsSpecifiedSpec : ChangeSpec := { name := "coreAnswersAsSpecified", fn := fun _ => fun
  | [d1, d2, d3, d4, d5] => { results := [.lit (.bool true)], args := [d1, d2, d3, d4, d5] }
  | _ => none }
def coreAnswersAsSpecifiedRow : OpenClaim := { program := "ytcknhfnbdgleiaagreat", sum := "a36ca2bf62f9af9eedd9dbefa5eb2d6e9882e23633fcf9ca09a8982ecdbb445d", func := "simulacrum/simulacrumlaw12.CoreAnswersAsSpecified", spec := "coreAnswersAsSpecified", unfollowed := true, recurses := true, apart := false }
def CoreAnswersAsSpecifiedSaid : Prop := coreAnswersAsSpecifiedRow.holds Tryz.pinned (OpenSpec.ofChange coreAnswersAsSpecifiedSpec)

/-- ITS FALSE NEIGHBOUR: 'it returns false'. Refute it at one input. -/
def coreAnswersAsSpecifiedWrong : ChangeSpec := { name := "coreAnswersAsSpecified", fn := fun _ => fun
  | [d1, d2, d3, d4, d5] => { results := [.lit (.bool false)], args := [d1, d2, d3, d4, d5] }
  | _ => none }
def CoreAnswersAsSpecifiedWrongFalsely : Prop := coreAnswersAsSpecifiedRow.holds Tryz.pinned (OpenSpec.ofChange coreAnswersAsSpecifiedWrong)

/-- 'simulacrumlaw12.CoreRunsAsSpecified': WHATEVER THE INPUT: true; the input reads as it did. -/
def coreRunsAsSpecifiedSpec : ChangeSpec := { name := "coreRunsAsSpecified", fn := fun _ => fun
  | [d1, d2, d3, d4] => { results := [.lit (.bool true)], args := [d1, d2, d3, d4] }
  | _ => none }
def coreRunsAsSpecifiedRow : OpenClaim := { program := "ytcknhfnbdgleiaagreat", sum := "a36ca2bf62f9af9eedd9dbefa5eb2d6e9882e23633fcf9ca09a8982ecdbb445d", func := "simulacrum/simulacrumlaw12.CoreRunsAsSpecified", spec := "coreRunsAsSpecified", unfollowed := true, recurses := true, apart := false }
def CoreRunsAsSpecifiedSaid : Prop := coreRunsAsSpecifiedRow.holds Tryz.pinned (OpenSpec.ofChange coreRunsAsSpecifiedSpec)

/-- ITS FALSE NEIGHBOUR: 'it returns false'. Refute it at one input. -/
def coreRunsAsSpecifiedWrong : ChangeSpec := { name := "coreRunsAsSpecified", fn := fun _ => fun
  | [d1, d2, d3, d4] => { results := [.lit (.bool false)], args := [d1, d2, d3, d4] }
  | _ => none }
def CoreRunsAsSpecifiedWrongFalsely : Prop := coreRunsAsSpecifiedRow.holds Tryz.pinned (OpenSpec.ofChange coreRunsAsSpecifiedWrong)

/- THE SECOND FORM. 'bulk': how many values and letters a reading holds, each counted each time it is reached (what is shared counts as often as it is met; a slice's spare places count too). A statement '..UptoSaid' is the law's where the arguments, and the package variables that the reading takes, are together of bulk at most 1048576: NARROWER than '..Said'. Prove '..Said' where nothing that the law and all that it calls make is longer than what came in: it says more and counts as full. Else prove '..UptoSaid'. A law counts once. -/
mutual
def uptoBulk {H : Type} : DataW H → Nat
  | .lit (.string bytes) => bytes.length + 1
  | .lit _ => 1
  | .nil => 1
  | .ptr d => uptoBulk d + 1
  | .slice elems spare => uptoBulkAll elems + uptoBulkAll spare + 1
  | .agg parts => uptoBulkAll parts + 1
  | .iface _ d => uptoBulk d + 1
  | .map entries => uptoBulkEntries entries + 1
  | .held _ => 1
def uptoBulkAll {H : Type} : List (DataW H) → Nat
  | [] => 0
  | d :: r => uptoBulk d + uptoBulkAll r
def uptoBulkEntries {H : Type} : List (Lit × DataW H) → Nat
  | [] => 0
  | x :: r => uptoBulkEntry x + uptoBulkEntries r
def uptoBulkEntry {H : Type} : Lit × DataW H → Nat
  | (.string bytes, d) => bytes.length + uptoBulk d + 1
  | (_, d) => uptoBulk d + 1
 end
def uptoSmall : (H : Type) → List (DataW H) → Bool := fun _ ds => decide (uptoBulkAll ds ≤ 1048576)
def OpenSpec.upto (s : _root_.Go.ChangeSpec) : _root_.Go.OpenSpec := { _root_.Go.OpenSpec.ofChange s with cond := some uptoSmall }

/-- 'simulacrumlaw12.CoreStepsAsSpecified', WHERE WHAT IT READS IS OF BULK AT MOST 1048576: true; the input reads as it did. -/
def coreStepsAsSpecifiedUptoRow : OpenClaim := { program := "ytcknhfnbdgleiaagreat", sum := "a36ca2bf62f9af9eedd9dbefa5eb2d6e9882e23633fcf9ca09a8982ecdbb445d", func := "simulacrum/simulacrumlaw12.CoreStepsAsSpecified", spec := "coreStepsAsSpecified", unfollowed := true, recurses := true, apart := false, narrowed := true }
def CoreStepsAsSpecifiedUptoSaid : Prop := coreStepsAsSpecifiedUptoRow.holds Tryz.pinned (OpenSpec.upto coreStepsAsSpecifiedSpec)

/-- 'simulacrumlaw12.CoreAnswersAsSpecified', WHERE WHAT IT READS IS OF BULK AT MOST 1048576: true; the input reads as it did. -/
def coreAnswersAsSpecifiedUptoRow : OpenClaim := { program := "ytcknhfnbdgleiaagreat", sum := "a36ca2bf62f9af9eedd9dbefa5eb2d6e9882e23633fcf9ca09a8982ecdbb445d", func := "simulacrum/simulacrumlaw12.CoreAnswersAsSpecified", spec := "coreAnswersAsSpecified", unfollowed := true, recurses := true, apart := false, narrowed := true }
def CoreAnswersAsSpecifiedUptoSaid : Prop := coreAnswersAsSpecifiedUptoRow.holds Tryz.pinned (OpenSpec.upto coreAnswersAsSpecifiedSpec)

/-- 'simulacrumlaw12.CoreRunsAsSpecified', WHERE WHAT IT READS IS OF BULK AT MOST 1048576: true; the input reads as it did. -/
def coreRunsAsSpecifiedUptoRow : OpenClaim := { program := "ytcknhfnbdgleiaagreat", sum := "a36ca2bf62f9af9eedd9dbefa5eb2d6e9882e23633fcf9ca09a8982ecdbb445d", func := "simulacrum/simulacrumlaw12.CoreRunsAsSpecified", spec := "coreRunsAsSpecified", unfollowed := true, recurses := true, apart := false, narrowed := true }
def CoreRunsAsSpecifiedUptoSaid : Prop := coreRunsAsSpecifiedUptoRow.holds Tryz.pinned (OpenSpec.upto coreRunsAsSpecifiedSpec)

end Rows
end Go.Proofs.YtcknhfnbdgleiaaGreat
