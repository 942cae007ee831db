/-
  No cell of these rows narrows 'for every input' (looked for: loops, veiled, ifaces, maps, wideKeys, modest, calm, conditions, laid).
  DERIVED. THE GIVEN ROWS OF THIS SEAT. 13 by the template 'for every input the law returns true; each argument reads behind the call as it read before'; 0 by the template 'total and deterministic' (their statements: YtcknhfnbdgleiaaTotals.lean).
  GIVEN WITH THE SEED: the statements are not yours to turn. If you find one false, say at which input.
  Laid BY PROGRAM, IN A SANDBOX (cutbox-rows.mjs): the forced cells as the released guide's own fill.sh prints them over the translation 63dd29229d08422a… (all of the seat's roots in one cut). By AI agents, Wed Nov 11 2026. No macro, syntax, notation, axiom, sorry.
-/
import Derived.Test.YtcknhfnbdgleiaaChecked
import GoSem.Claim
import GoSem.ClaimJoined
import GoSem.ClaimMapViews
import Derived.JoinedTies
import Derived.KernelRfl
namespace Go.Proofs.Ytcknhfnbdgleiaa
/- THE CELL 'sum', in the pinned program and in every row, IS THE sha256 OF THE DUMP (.gsa) THAT YtcknhfnbdgleiaaProg.lean LOADS. Nothing in Lean hashes anything: it is a label: what it is worth is what the hold of that sum in a sandbox is worth. -/
noncomputable def Try.pinned : Pinned := { name := "ytcknhfnbdgleiaa", sum := "63dd29229d08422a3195c95d12ad91ebbebb209a62c99723d64a89b1bbd938bb", checked := Try.checked }
namespace Rows
def none {H : Type} : Left H := { results := [], args := [] }

/-- 'simulacrumlaw10.TableWalksAsSpecified': WHATEVER THE INPUT: true; the input reads as it did. -/
def tableWalksAsSpecifiedSpec : ChangeSpec := { name := "tableWalksAsSpecified", fn := fun _ => fun
  | [d1, d2, d3, d4, d5] => { results := [.lit (.bool true)], args := [d1, d2, d3, d4, d5] }
  | _ => none }
def tableWalksAsSpecifiedRow : OpenClaim := { program := "ytcknhfnbdgleiaa", sum := "63dd29229d08422a3195c95d12ad91ebbebb209a62c99723d64a89b1bbd938bb", func := "simulacrum/simulacrumlaw10.TableWalksAsSpecified", spec := "tableWalksAsSpecified", unfollowed := true, recurses := true, apart := false }
def TableWalksAsSpecifiedSaid : Prop := tableWalksAsSpecifiedRow.holds Try.pinned (OpenSpec.ofChange tableWalksAsSpecifiedSpec)

/-- ITS FALSE NEIGHBOUR: 'it returns false'. Refute it at one input. -/
def tableWalksAsSpecifiedWrong : ChangeSpec := { name := "tableWalksAsSpecified", fn := fun _ => fun
  | [d1, d2, d3, d4, d5] => { results := [.lit (.bool false)], args := [d1, d2, d3, d4, d5] }
  | _ => none }
def TableWalksAsSpecifiedWrongFalsely : Prop := tableWalksAsSpecifiedRow.holds Try.pinned (OpenSpec.ofChange tableWalksAsSpecifiedWrong)

/-- 'simulacrumlaw10.TableStaysInMemory': WHATEVER THE INPUT: true; the input reads as it did. -/
def tableStaysInMemorySpec : ChangeSpec := { name := "tableStaysInMemory", fn := fun _ => fun
  | [d1, d2, d3, d4, d5] => { results := [.lit (.bool true)], args := [d1, d2, d3, d4, d5] }
  | _ => none }
def tableStaysInMemoryRow : OpenClaim := { program := "ytcknhfnbdgleiaa", sum := "63dd29229d08422a3195c95d12ad91ebbebb209a62c99723d64a89b1bbd938bb", func := "simulacrum/simulacrumlaw10.TableStaysInMemory", spec := "tableStaysInMemory", unfollowed := true, recurses := true, apart := false }
def TableStaysInMemorySaid : Prop := tableStaysInMemoryRow.holds Try.pinned (OpenSpec.ofChange tableStaysInMemorySpec)

/-- ITS FALSE NEIGHBOUR: 'it returns false'. Refute it at one input. -/
def tableStaysInMemoryWrong : ChangeSpec := { name := "tableStaysInMemory", fn := fun _ => fun
  | [d1, d2, d3, d4, d5] => { results := [.lit (.bool false)], args := [d1, d2, d3, d4, d5] }
  | _ => none }
def TableStaysInMemoryWrongFalsely : Prop := tableStaysInMemoryRow.holds Try.pinned (OpenSpec.ofChange tableStaysInMemoryWrong)

/-- 'simulacrumlaw10.TableRightsAreOrdered': WHATEVER THE INPUT: true; the input reads as it did. -/
def tableRightsAreOrderedSpec : ChangeSpec := { name := "tableRightsAreOrdered", fn := fun _ => fun
  | [d1, d2, d3] => { results := [.lit (.bool true)], args := [d1, d2, d3] }
  | _ => none }
def tableRightsAreOrderedRow : OpenClaim := { program := "ytcknhfnbdgleiaa", sum := "63dd29229d08422a3195c95d12ad91ebbebb209a62c99723d64a89b1bbd938bb", func := "simulacrum/simulacrumlaw10.TableRightsAreOrdered", spec := "tableRightsAreOrdered", unfollowed := true, recurses := true, apart := false }
def TableRightsAreOrderedSaid : Prop := tableRightsAreOrderedRow.holds Try.pinned (OpenSpec.ofChange tableRightsAreOrderedSpec)

/-- ITS FALSE NEIGHBOUR: 'it returns false'. Refute it at one input. -/
def tableRightsAreOrderedWrong : ChangeSpec := { name := "tableRightsAreOrdered", fn := fun _ => fun
  | [d1, d2, d3] => { results := [.lit (.bool false)], args := [d1, d2, d3] }
  | _ => none }
def TableRightsAreOrderedWrongFalsely : Prop := tableRightsAreOrderedRow.holds Try.pinned (OpenSpec.ofChange tableRightsAreOrderedWrong)

/-- 'simulacrumlaw10.TableListIsTranslation': WHATEVER THE INPUT: true; the input reads as it did. -/
def tableListIsTranslationSpec : ChangeSpec := { name := "tableListIsTranslation", fn := fun _ => fun
  | [d1, d2, d3] => { results := [.lit (.bool true)], args := [d1, d2, d3] }
  | _ => none }
def tableListIsTranslationRow : OpenClaim := { program := "ytcknhfnbdgleiaa", sum := "63dd29229d08422a3195c95d12ad91ebbebb209a62c99723d64a89b1bbd938bb", func := "simulacrum/simulacrumlaw10.TableListIsTranslation", spec := "tableListIsTranslation", unfollowed := true, recurses := true, apart := false }
def TableListIsTranslationSaid : Prop := tableListIsTranslationRow.holds Try.pinned (OpenSpec.ofChange tableListIsTranslationSpec)

/-- ITS FALSE NEIGHBOUR: 'it returns false'. Refute it at one input. -/
def tableListIsTranslationWrong : ChangeSpec := { name := "tableListIsTranslation", fn := fun _ => fun
  | [d1, d2, d3] => { results := [.lit (.bool false)], args := [d1, d2, d3] }
  | _ => none }
def TableListIsTranslationWrongFalsely : Prop := tableListIsTranslationRow.holds Try.pinned (OpenSpec.ofChange tableListIsTranslationWrong)

/-- 'simulacrumlaw10.TableBuildsAsSpecified': WHATEVER THE INPUT: true; the input reads as it did. -/
def tableBuildsAsSpecifiedSpec : ChangeSpec := { name := "tableBuildsAsSpecified", fn := fun _ => fun
  | [d1, d2, d3, d4, d5, d6] => { results := [.lit (.bool true)], args := [d1, d2, d3, d4, d5, d6] }
  | _ => none }
def tableBuildsAsSpecifiedRow : OpenClaim := { program := "ytcknhfnbdgleiaa", sum := "63dd29229d08422a3195c95d12ad91ebbebb209a62c99723d64a89b1bbd938bb", func := "simulacrum/simulacrumlaw10.TableBuildsAsSpecified", spec := "tableBuildsAsSpecified", unfollowed := true, recurses := true, apart := false }
def TableBuildsAsSpecifiedSaid : Prop := tableBuildsAsSpecifiedRow.holds Try.pinned (OpenSpec.ofChange tableBuildsAsSpecifiedSpec)

/-- ITS FALSE NEIGHBOUR: 'it returns false'. Refute it at one input. -/
def tableBuildsAsSpecifiedWrong : ChangeSpec := { name := "tableBuildsAsSpecified", fn := fun _ => fun
  | [d1, d2, d3, d4, d5, d6] => { results := [.lit (.bool false)], args := [d1, d2, d3, d4, d5, d6] }
  | _ => none }
def TableBuildsAsSpecifiedWrongFalsely : Prop := tableBuildsAsSpecifiedRow.holds Try.pinned (OpenSpec.ofChange tableBuildsAsSpecifiedWrong)

/-- 'simulacrumlaw25.TlbFindsWhatIsFilled': WHATEVER THE INPUT: true; the input reads as it did. -/
def tlbFindsWhatIsFilledSpec : ChangeSpec := { name := "tlbFindsWhatIsFilled", fn := fun _ => fun
  | [d1, d2, d3, d4, d5] => { results := [.lit (.bool true)], args := [d1, d2, d3, d4, d5] }
  | _ => none }
def tlbFindsWhatIsFilledRow : OpenClaim := { program := "ytcknhfnbdgleiaa", sum := "63dd29229d08422a3195c95d12ad91ebbebb209a62c99723d64a89b1bbd938bb", func := "simulacrum/simulacrumlaw25.TlbFindsWhatIsFilled", spec := "tlbFindsWhatIsFilled", unfollowed := true, recurses := true, apart := false }
def TlbFindsWhatIsFilledSaid : Prop := tlbFindsWhatIsFilledRow.holds Try.pinned (OpenSpec.ofChange tlbFindsWhatIsFilledSpec)

/-- ITS FALSE NEIGHBOUR: 'it returns false'. Refute it at one input. -/
def tlbFindsWhatIsFilledWrong : ChangeSpec := { name := "tlbFindsWhatIsFilled", fn := fun _ => fun
  | [d1, d2, d3, d4, d5] => { results := [.lit (.bool false)], args := [d1, d2, d3, d4, d5] }
  | _ => none }
def TlbFindsWhatIsFilledWrongFalsely : Prop := tlbFindsWhatIsFilledRow.holds Try.pinned (OpenSpec.ofChange tlbFindsWhatIsFilledWrong)

/-- 'simulacrumlaw25.TlbWorksAsSpecified': WHATEVER THE INPUT: true; the input reads as it did. -/
def tlbWorksAsSpecifiedSpec : ChangeSpec := { name := "tlbWorksAsSpecified", fn := fun _ => fun
  | [d1, d2, d3, d4, d5, d6] => { results := [.lit (.bool true)], args := [d1, d2, d3, d4, d5, d6] }
  | _ => none }
def tlbWorksAsSpecifiedRow : OpenClaim := { program := "ytcknhfnbdgleiaa", sum := "63dd29229d08422a3195c95d12ad91ebbebb209a62c99723d64a89b1bbd938bb", func := "simulacrum/simulacrumlaw25.TlbWorksAsSpecified", spec := "tlbWorksAsSpecified", unfollowed := true, recurses := true, apart := false }
def TlbWorksAsSpecifiedSaid : Prop := tlbWorksAsSpecifiedRow.holds Try.pinned (OpenSpec.ofChange tlbWorksAsSpecifiedSpec)

/-- ITS FALSE NEIGHBOUR: 'it returns false'. Refute it at one input. -/
def tlbWorksAsSpecifiedWrong : ChangeSpec := { name := "tlbWorksAsSpecified", fn := fun _ => fun
  | [d1, d2, d3, d4, d5, d6] => { results := [.lit (.bool false)], args := [d1, d2, d3, d4, d5, d6] }
  | _ => none }
def TlbWorksAsSpecifiedWrongFalsely : Prop := tlbWorksAsSpecifiedRow.holds Try.pinned (OpenSpec.ofChange tlbWorksAsSpecifiedWrong)

/-- 'simulacrumlaw25.TlbForgetsOnlyWhatIsNamed': WHATEVER THE INPUT: true; the input reads as it did. -/
def tlbForgetsOnlyWhatIsNamedSpec : ChangeSpec := { name := "tlbForgetsOnlyWhatIsNamed", fn := fun _ => fun
  | [d1, d2, d3, d4] => { results := [.lit (.bool true)], args := [d1, d2, d3, d4] }
  | _ => none }
def tlbForgetsOnlyWhatIsNamedRow : OpenClaim := { program := "ytcknhfnbdgleiaa", sum := "63dd29229d08422a3195c95d12ad91ebbebb209a62c99723d64a89b1bbd938bb", func := "simulacrum/simulacrumlaw25.TlbForgetsOnlyWhatIsNamed", spec := "tlbForgetsOnlyWhatIsNamed", unfollowed := true, recurses := true, apart := false }
def TlbForgetsOnlyWhatIsNamedSaid : Prop := tlbForgetsOnlyWhatIsNamedRow.holds Try.pinned (OpenSpec.ofChange tlbForgetsOnlyWhatIsNamedSpec)

/-- ITS FALSE NEIGHBOUR: 'it returns false'. Refute it at one input. -/
def tlbForgetsOnlyWhatIsNamedWrong : ChangeSpec := { name := "tlbForgetsOnlyWhatIsNamed", fn := fun _ => fun
  | [d1, d2, d3, d4] => { results := [.lit (.bool false)], args := [d1, d2, d3, d4] }
  | _ => none }
def TlbForgetsOnlyWhatIsNamedWrongFalsely : Prop := tlbForgetsOnlyWhatIsNamedRow.holds Try.pinned (OpenSpec.ofChange tlbForgetsOnlyWhatIsNamedWrong)

/-- 'simulacrumlaw25.TlbIsNotSeen': WHATEVER THE INPUT: true; the input reads as it did. -/
def tlbIsNotSeenSpec : ChangeSpec := { name := "tlbIsNotSeen", fn := fun _ => fun
  | [d1, d2] => { results := [.lit (.bool true)], args := [d1, d2] }
  | _ => none }
def tlbIsNotSeenRow : OpenClaim := { program := "ytcknhfnbdgleiaa", sum := "63dd29229d08422a3195c95d12ad91ebbebb209a62c99723d64a89b1bbd938bb", func := "simulacrum/simulacrumlaw25.TlbIsNotSeen", spec := "tlbIsNotSeen", unfollowed := true, recurses := true, apart := false }
def TlbIsNotSeenSaid : Prop := tlbIsNotSeenRow.holds Try.pinned (OpenSpec.ofChange tlbIsNotSeenSpec)

/-- ITS FALSE NEIGHBOUR: 'it returns false'. Refute it at one input. -/
def tlbIsNotSeenWrong : ChangeSpec := { name := "tlbIsNotSeen", fn := fun _ => fun
  | [d1, d2] => { results := [.lit (.bool false)], args := [d1, d2] }
  | _ => none }
def TlbIsNotSeenWrongFalsely : Prop := tlbIsNotSeenRow.holds Try.pinned (OpenSpec.ofChange tlbIsNotSeenWrong)

/-- 'simulacrumlaw12.CoreTouchesWhatItSays': WHATEVER THE INPUT: true; the input reads as it did. -/
def coreTouchesWhatItSaysSpec : ChangeSpec := { name := "coreTouchesWhatItSays", fn := fun _ => fun
  | [d1, d2, d3, d4] => { results := [.lit (.bool true)], args := [d1, d2, d3, d4] }
  | _ => none }
def coreTouchesWhatItSaysRow : OpenClaim := { program := "ytcknhfnbdgleiaa", sum := "63dd29229d08422a3195c95d12ad91ebbebb209a62c99723d64a89b1bbd938bb", func := "simulacrum/simulacrumlaw12.CoreTouchesWhatItSays", spec := "coreTouchesWhatItSays", unfollowed := true, recurses := true, apart := false }
def CoreTouchesWhatItSaysSaid : Prop := coreTouchesWhatItSaysRow.holds Try.pinned (OpenSpec.ofChange coreTouchesWhatItSaysSpec)

/-- ITS FALSE NEIGHBOUR: 'it returns false'. Refute it at one input. -/
def coreTouchesWhatItSaysWrong : ChangeSpec := { name := "coreTouchesWhatItSays", fn := fun _ => fun
  | [d1, d2, d3, d4] => { results := [.lit (.bool false)], args := [d1, d2, d3, d4] }
  | _ => none }
def CoreTouchesWhatItSaysWrongFalsely : Prop := coreTouchesWhatItSaysRow.holds Try.pinned (OpenSpec.ofChange coreTouchesWhatItSaysWrong)

/-- 'simulacrumlaw12.CoreConfinesUsers': WHATEVER THE INPUT: true; the input reads as it did. -/
def coreConfinesUsersSpec : ChangeSpec := { name := "coreConfinesUsers", fn := fun _ => fun
  | [d1, d2, d3] => { results := [.lit (.bool true)], args := [d1, d2, d3] }
  | _ => none }
def coreConfinesUsersRow : OpenClaim := { program := "ytcknhfnbdgleiaa", sum := "63dd29229d08422a3195c95d12ad91ebbebb209a62c99723d64a89b1bbd938bb", func := "simulacrum/simulacrumlaw12.CoreConfinesUsers", spec := "coreConfinesUsers", unfollowed := true, recurses := true, apart := false }
def CoreConfinesUsersSaid : Prop := coreConfinesUsersRow.holds Try.pinned (OpenSpec.ofChange coreConfinesUsersSpec)

/-- ITS FALSE NEIGHBOUR: 'it returns false'. Refute it at one input. -/
def coreConfinesUsersWrong : ChangeSpec := { name := "coreConfinesUsers", fn := fun _ => fun
  | [d1, d2, d3] => { results := [.lit (.bool false)], args := [d1, d2, d3] }
  | _ => none }
def CoreConfinesUsersWrongFalsely : Prop := coreConfinesUsersRow.holds Try.pinned (OpenSpec.ofChange coreConfinesUsersWrong)

/-- 'simulacrumlaw12.CoreComputes': WHATEVER THE INPUT: true; the input reads as it did. -/
def coreComputesSpec : ChangeSpec := { name := "coreComputes", fn := fun _ => fun
  | [d1, d2, d3] => { results := [.lit (.bool true)], args := [d1, d2, d3] }
  | _ => none }
def coreComputesRow : OpenClaim := { program := "ytcknhfnbdgleiaa", sum := "63dd29229d08422a3195c95d12ad91ebbebb209a62c99723d64a89b1bbd938bb", func := "simulacrum/simulacrumlaw12.CoreComputes", spec := "coreComputes", unfollowed := true, recurses := true, apart := false }
def CoreComputesSaid : Prop := coreComputesRow.holds Try.pinned (OpenSpec.ofChange coreComputesSpec)

/-- ITS FALSE NEIGHBOUR: 'it returns false'. Refute it at one input. -/
def coreComputesWrong : ChangeSpec := { name := "coreComputes", fn := fun _ => fun
  | [d1, d2, d3] => { results := [.lit (.bool false)], args := [d1, d2, d3] }
  | _ => none }
def CoreComputesWrongFalsely : Prop := coreComputesRow.holds Try.pinned (OpenSpec.ofChange coreComputesWrong)

/-- 'simulacrumlaw12.CoreKeepsValid': WHATEVER THE INPUT: true; the input reads as it did. -/
def coreKeepsValidSpec : ChangeSpec := { name := "coreKeepsValid", fn := fun _ => fun
  | [d1, d2, d3, d4, d5] => { results := [.lit (.bool true)], args := [d1, d2, d3, d4, d5] }
  | _ => none }
def coreKeepsValidRow : OpenClaim := { program := "ytcknhfnbdgleiaa", sum := "63dd29229d08422a3195c95d12ad91ebbebb209a62c99723d64a89b1bbd938bb", func := "simulacrum/simulacrumlaw12.CoreKeepsValid", spec := "coreKeepsValid", unfollowed := true, recurses := true, apart := false }
def CoreKeepsValidSaid : Prop := coreKeepsValidRow.holds Try.pinned (OpenSpec.ofChange coreKeepsValidSpec)

/-- ITS FALSE NEIGHBOUR: 'it returns false'. Refute it at one input. -/
def coreKeepsValidWrong : ChangeSpec := { name := "coreKeepsValid", fn := fun _ => fun
  | [d1, d2, d3, d4, d5] => { results := [.lit (.bool false)], args := [d1, d2, d3, d4, d5] }
  | _ => none }
def CoreKeepsValidWrongFalsely : Prop := coreKeepsValidRow.holds Try.pinned (OpenSpec.ofChange coreKeepsValidWrong)

/- THE SECOND FORM. 'bulk': how many values and letters a reading holds, each counted each time it is reached (what is shared counts as often as it is met; a slice's spare places count too). A statement '..UptoSaid' is the law's where the arguments, and the package variables that the reading takes, are together of bulk at most 1048576: NARROWER than '..Said'. Prove '..Said' where nothing that the law and all that it calls make is longer than what came in: it says more and counts as full. Else prove '..UptoSaid'. A law counts once. -/
mutual
def uptoBulk {H : Type} : DataW H → Nat
  | .lit (.string bytes) => bytes.length + 1
  | .lit _ => 1
  | .nil => 1
  | .ptr d => uptoBulk d + 1
  | .slice elems spare => uptoBulkAll elems + uptoBulkAll spare + 1
  | .agg parts => uptoBulkAll parts + 1
  | .iface _ d => uptoBulk d + 1
  | .map entries => uptoBulkEntries entries + 1
  | .held _ => 1
def uptoBulkAll {H : Type} : List (DataW H) → Nat
  | [] => 0
  | d :: r => uptoBulk d + uptoBulkAll r
def uptoBulkEntries {H : Type} : List (Lit × DataW H) → Nat
  | [] => 0
  | x :: r => uptoBulkEntry x + uptoBulkEntries r
def uptoBulkEntry {H : Type} : Lit × DataW H → Nat
  | (.string bytes, d) => bytes.length + uptoBulk d + 1
  | (_, d) => uptoBulk d + 1
 end
def uptoSmall : (H : Type) → List (DataW H) → Bool := fun _ ds => decide (uptoBulkAll ds ≤ 1048576)
def OpenSpec.upto (s : _root_.Go.ChangeSpec) : _root_.Go.OpenSpec := { _root_.Go.OpenSpec.ofChange s with cond := some uptoSmall }

/-- 'simulacrumlaw10.TableWalksAsSpecified', WHERE WHAT IT READS IS OF BULK AT MOST 1048576: true; the input reads as it did. -/
def tableWalksAsSpecifiedUptoRow : OpenClaim := { program := "ytcknhfnbdgleiaa", sum := "63dd29229d08422a3195c95d12ad91ebbebb209a62c99723d64a89b1bbd938bb", func := "simulacrum/simulacrumlaw10.TableWalksAsSpecified", spec := "tableWalksAsSpecified", unfollowed := true, recurses := true, apart := false, narrowed := true }
def TableWalksAsSpecifiedUptoSaid : Prop := tableWalksAsSpecifiedUptoRow.holds Try.pinned (OpenSpec.upto tableWalksAsSpecifiedSpec)

/-- 'simulacrumlaw10.TableStaysInMemory', WHERE WHAT IT READS IS OF BULK AT MOST 1048576: true; the input reads as it did. -/
def tableStaysInMemoryUptoRow : OpenClaim := { program := "ytcknhfnbdgleiaa", sum := "63dd29229d08422a3195c95d12ad91ebbebb209a62c99723d64a89b1bbd938bb", func := "simulacrum/simulacrumlaw10.TableStaysInMemory", spec := "tableStaysInMemory", unfollowed := true, recurses := true, apart := false, narrowed := true }
def TableStaysInMemoryUptoSaid : Prop := tableStaysInMemoryUptoRow.holds Try.pinned (OpenSpec.upto tableStaysInMemorySpec)

/-- 'simulacrumlaw10.TableRightsAreOrdered', WHERE WHAT IT READS IS OF BULK AT MOST 1048576: true; the input reads as it did. -/
def tableRightsAreOrderedUptoRow : OpenClaim := { program := "ytcknhfnbdgleiaa", sum := "63dd29229d08422a3195c95d12ad91ebbebb209a62c99723d64a89b1bbd938bb", func := "simulacrum/simulacrumlaw10.TableRightsAreOrdered", spec := "tableRightsAreOrdered", unfollowed := true, recurses := true, apart := false, narrowed := true }
def TableRightsAreOrderedUptoSaid : Prop := tableRightsAreOrderedUptoRow.holds Try.pinned (OpenSpec.upto tableRightsAreOrderedSpec)

/-- 'simulacrumlaw10.TableListIsTranslation', WHERE WHAT IT READS IS OF BULK AT MOST 1048576: true; the input reads as it did. -/
def tableListIsTranslationUptoRow : OpenClaim := { program := "ytcknhfnbdgleiaa", sum := "63dd29229d08422a3195c95d12ad91ebbebb209a62c99723d64a89b1bbd938bb", func := "simulacrum/simulacrumlaw10.TableListIsTranslation", spec := "tableListIsTranslation", unfollowed := true, recurses := true, apart := false, narrowed := true }
def TableListIsTranslationUptoSaid : Prop := tableListIsTranslationUptoRow.holds Try.pinned (OpenSpec.upto tableListIsTranslationSpec)

/-- 'simulacrumlaw10.TableBuildsAsSpecified', WHERE WHAT IT READS IS OF BULK AT MOST 1048576: true; the input reads as it did. -/
def tableBuildsAsSpecifiedUptoRow : OpenClaim := { program := "ytcknhfnbdgleiaa", sum := "63dd29229d08422a3195c95d12ad91ebbebb209a62c99723d64a89b1bbd938bb", func := "simulacrum/simulacrumlaw10.TableBuildsAsSpecified", spec := "tableBuildsAsSpecified", unfollowed := true, recurses := true, apart := false, narrowed := true }
def TableBuildsAsSpecifiedUptoSaid : Prop := tableBuildsAsSpecifiedUptoRow.holds Try.pinned (OpenSpec.upto tableBuildsAsSpecifiedSpec)

/-- 'simulacrumlaw25.TlbFindsWhatIsFilled', WHERE WHAT IT READS IS OF BULK AT MOST 1048576: true; the input reads as it did. -/
def tlbFindsWhatIsFilledUptoRow : OpenClaim := { program := "ytcknhfnbdgleiaa", sum := "63dd29229d08422a3195c95d12ad91ebbebb209a62c99723d64a89b1bbd938bb", func := "simulacrum/simulacrumlaw25.TlbFindsWhatIsFilled", spec := "tlbFindsWhatIsFilled", unfollowed := true, recurses := true, apart := false, narrowed := true }
def TlbFindsWhatIsFilledUptoSaid : Prop := tlbFindsWhatIsFilledUptoRow.holds Try.pinned (OpenSpec.upto tlbFindsWhatIsFilledSpec)

/-- 'simulacrumlaw25.TlbWorksAsSpecified', WHERE WHAT IT READS IS OF BULK AT MOST 1048576: true; the input reads as it did. -/
def tlbWorksAsSpecifiedUptoRow : OpenClaim := { program := "ytcknhfnbdgleiaa", sum := "63dd29229d08422a3195c95d12ad91ebbebb209a62c99723d64a89b1bbd938bb", func := "simulacrum/simulacrumlaw25.TlbWorksAsSpecified", spec := "tlbWorksAsSpecified", unfollowed := true, recurses := true, apart := false, narrowed := true }
def TlbWorksAsSpecifiedUptoSaid : Prop := tlbWorksAsSpecifiedUptoRow.holds Try.pinned (OpenSpec.upto tlbWorksAsSpecifiedSpec)

/-- 'simulacrumlaw25.TlbForgetsOnlyWhatIsNamed', WHERE WHAT IT READS IS OF BULK AT MOST 1048576: true; the input reads as it did. -/
def tlbForgetsOnlyWhatIsNamedUptoRow : OpenClaim := { program := "ytcknhfnbdgleiaa", sum := "63dd29229d08422a3195c95d12ad91ebbebb209a62c99723d64a89b1bbd938bb", func := "simulacrum/simulacrumlaw25.TlbForgetsOnlyWhatIsNamed", spec := "tlbForgetsOnlyWhatIsNamed", unfollowed := true, recurses := true, apart := false, narrowed := true }
def TlbForgetsOnlyWhatIsNamedUptoSaid : Prop := tlbForgetsOnlyWhatIsNamedUptoRow.holds Try.pinned (OpenSpec.upto tlbForgetsOnlyWhatIsNamedSpec)

/-- 'simulacrumlaw25.TlbIsNotSeen', WHERE WHAT IT READS IS OF BULK AT MOST 1048576: true; the input reads as it did. -/
def tlbIsNotSeenUptoRow : OpenClaim := { program := "ytcknhfnbdgleiaa", sum := "63dd29229d08422a3195c95d12ad91ebbebb209a62c99723d64a89b1bbd938bb", func := "simulacrum/simulacrumlaw25.TlbIsNotSeen", spec := "tlbIsNotSeen", unfollowed := true, recurses := true, apart := false, narrowed := true }
def TlbIsNotSeenUptoSaid : Prop := tlbIsNotSeenUptoRow.holds Try.pinned (OpenSpec.upto tlbIsNotSeenSpec)

/-- 'simulacrumlaw12.CoreTouchesWhatItSays', WHERE WHAT IT READS IS OF BULK AT MOST 1048576: true; the input reads as it did. -/
def coreTouchesWhatItSaysUptoRow : OpenClaim := { program := "ytcknhfnbdgleiaa", sum := "63dd29229d08422a3195c95d12ad91ebbebb209a62c99723d64a89b1bbd938bb", func := "simulacrum/simulacrumlaw12.CoreTouchesWhatItSays", spec := "coreTouchesWhatItSays", unfollowed := true, recurses := true, apart := false, narrowed := true }
def CoreTouchesWhatItSaysUptoSaid : Prop := coreTouchesWhatItSaysUptoRow.holds Try.pinned (OpenSpec.upto coreTouchesWhatItSaysSpec)

/-- 'simulacrumlaw12.CoreConfinesUsers', WHERE WHAT IT READS IS OF BULK AT MOST 1048576: true; the input reads as it did. -/
def coreConfinesUsersUptoRow : OpenClaim := { program := "ytcknhfnbdgleiaa", sum := "63dd29229d08422a3195c95d12ad91ebbebb209a62c99723d64a89b1bbd938bb", func := "simulacrum/simulacrumlaw12.CoreConfinesUsers", spec := "coreConfinesUsers", unfollowed := true, recurses := true, apart := false, narrowed := true }
def CoreConfinesUsersUptoSaid : Prop := coreConfinesUsersUptoRow.holds Try.pinned (OpenSpec.upto coreConfinesUsersSpec)

/-- 'simulacrumlaw12.CoreComputes', WHERE WHAT IT READS IS OF BULK AT MOST 1048576: true; the input reads as it did. -/
def coreComputesUptoRow : OpenClaim := { program := "ytcknhfnbdgleiaa", sum := "63dd29229d08422a3195c95d12ad91ebbebb209a62c99723d64a89b1bbd938bb", func := "simulacrum/simulacrumlaw12.CoreComputes", spec := "coreComputes", unfollowed := true, recurses := true, apart := false, narrowed := true }
def CoreComputesUptoSaid : Prop := coreComputesUptoRow.holds Try.pinned (OpenSpec.upto coreComputesSpec)

/-- 'simulacrumlaw12.CoreKeepsValid', WHERE WHAT IT READS IS OF BULK AT MOST 1048576: true; the input reads as it did. -/
def coreKeepsValidUptoRow : OpenClaim := { program := "ytcknhfnbdgleiaa", sum := "63dd29229d08422a3195c95d12ad91ebbebb209a62c99723d64a89b1bbd938bb", func := "simulacrum/simulacrumlaw12.CoreKeepsValid", spec := "coreKeepsValid", unfollowed := true, recurses := true, apart := false, narrowed := true }
def CoreKeepsValidUptoSaid : Prop := coreKeepsValidUptoRow.holds Try.pinned (OpenSpec.upto coreKeepsValidSpec)

end Rows
end Go.Proofs.Ytcknhfnbdgleiaa
