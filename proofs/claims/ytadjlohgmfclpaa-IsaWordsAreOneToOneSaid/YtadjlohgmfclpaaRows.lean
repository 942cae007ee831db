/-
  No cell of these rows narrows 'for every input' (looked for: loops, veiled, ifaces, maps, wideKeys, modest, calm, conditions, laid).
  DERIVED. THE GIVEN ROWS OF THIS SEAT. 6 by the template 'for every input the law returns true; each argument reads behind the call as it read before'; 0 by the template 'total and deterministic' (their statements: YtadjlohgmfclpaaTotals.lean).
  GIVEN WITH THE SEED: the statements are not yours to turn. If you find one false, say at which input.
  Laid BY PROGRAM, IN A SANDBOX (cutbox-rows.mjs): the forced cells as the released guide's own fill.sh prints them over the translation 41ac4722470ffc0e… (all of the seat's roots in one cut). By AI agents, Wed Nov 11 2026. No macro, syntax, notation, axiom, sorry.
-/
import Derived.Test.YtadjlohgmfclpaaChecked
import GoSem.Claim
import GoSem.ClaimJoined
import GoSem.ClaimMapViews
import Derived.JoinedTies
import Derived.KernelRfl
namespace Go.Proofs.Ytadjlohgmfclpaa
/- THE CELL 'sum', in the pinned program and in every row, IS THE sha256 OF THE DUMP (.gsa) THAT YtadjlohgmfclpaaProg.lean LOADS. Nothing in Lean hashes anything: it is a label: what it is worth is what the hold of that sum in a sandbox is worth. -/
noncomputable def Try.pinned : Pinned := { name := "ytadjlohgmfclpaa", sum := "41ac4722470ffc0e178cba3433eb96e794c02d44cac3298c788e174caf6e6524", checked := Try.checked }
namespace Rows
def none {H : Type} : Left H := { results := [], args := [] }

/-- 'simulacrumlaw04.IsaEncodesAsSpecified': WHATEVER THE INPUT: true; the input reads as it did. -/
def isaEncodesAsSpecifiedSpec : ChangeSpec := { name := "isaEncodesAsSpecified", fn := fun _ => fun
  | [d1, d2] => { results := [.lit (.bool true)], args := [d1, d2] }
  | _ => none }
def isaEncodesAsSpecifiedRow : OpenClaim := { program := "ytadjlohgmfclpaa", sum := "41ac4722470ffc0e178cba3433eb96e794c02d44cac3298c788e174caf6e6524", func := "simulacrum/simulacrumlaw04.IsaEncodesAsSpecified", spec := "isaEncodesAsSpecified", unfollowed := true, recurses := true, apart := false }
def IsaEncodesAsSpecifiedSaid : Prop := isaEncodesAsSpecifiedRow.holds Try.pinned (OpenSpec.ofChange isaEncodesAsSpecifiedSpec)

/-- ITS FALSE NEIGHBOUR: 'it returns false'. Refute it at one input. -/
def isaEncodesAsSpecifiedWrong : ChangeSpec := { name := "isaEncodesAsSpecified", fn := fun _ => fun
  | [d1, d2] => { results := [.lit (.bool false)], args := [d1, d2] }
  | _ => none }
def IsaEncodesAsSpecifiedWrongFalsely : Prop := isaEncodesAsSpecifiedRow.holds Try.pinned (OpenSpec.ofChange isaEncodesAsSpecifiedWrong)

/-- 'simulacrumlaw04.IsaDecodesAsSpecified': WHATEVER THE INPUT: true; the input reads as it did. -/
def isaDecodesAsSpecifiedSpec : ChangeSpec := { name := "isaDecodesAsSpecified", fn := fun _ => fun
  | [d] => { results := [.lit (.bool true)], args := [d] }
  | _ => none }
def isaDecodesAsSpecifiedRow : OpenClaim := { program := "ytadjlohgmfclpaa", sum := "41ac4722470ffc0e178cba3433eb96e794c02d44cac3298c788e174caf6e6524", func := "simulacrum/simulacrumlaw04.IsaDecodesAsSpecified", spec := "isaDecodesAsSpecified", unfollowed := true, recurses := true, apart := false }
def IsaDecodesAsSpecifiedSaid : Prop := isaDecodesAsSpecifiedRow.holds Try.pinned (OpenSpec.ofChange isaDecodesAsSpecifiedSpec)

/-- ITS FALSE NEIGHBOUR: 'it returns false'. Refute it at one input. -/
def isaDecodesAsSpecifiedWrong : ChangeSpec := { name := "isaDecodesAsSpecified", fn := fun _ => fun
  | [d] => { results := [.lit (.bool false)], args := [d] }
  | _ => none }
def IsaDecodesAsSpecifiedWrongFalsely : Prop := isaDecodesAsSpecifiedRow.holds Try.pinned (OpenSpec.ofChange isaDecodesAsSpecifiedWrong)

/-- 'simulacrumlaw04.IsaWordsAreOneToOne': WHATEVER THE INPUT: true; the input reads as it did. -/
def isaWordsAreOneToOneSpec : ChangeSpec := { name := "isaWordsAreOneToOne", fn := fun _ => fun
  | [d1, d2, d3] => { results := [.lit (.bool true)], args := [d1, d2, d3] }
  | _ => none }
def isaWordsAreOneToOneRow : OpenClaim := { program := "ytadjlohgmfclpaa", sum := "41ac4722470ffc0e178cba3433eb96e794c02d44cac3298c788e174caf6e6524", func := "simulacrum/simulacrumlaw04.IsaWordsAreOneToOne", spec := "isaWordsAreOneToOne", unfollowed := true, recurses := true, apart := false }
def IsaWordsAreOneToOneSaid : Prop := isaWordsAreOneToOneRow.holds Try.pinned (OpenSpec.ofChange isaWordsAreOneToOneSpec)

/-- ITS FALSE NEIGHBOUR: 'it returns false'. Refute it at one input. -/
def isaWordsAreOneToOneWrong : ChangeSpec := { name := "isaWordsAreOneToOne", fn := fun _ => fun
  | [d1, d2, d3] => { results := [.lit (.bool false)], args := [d1, d2, d3] }
  | _ => none }
def IsaWordsAreOneToOneWrongFalsely : Prop := isaWordsAreOneToOneRow.holds Try.pinned (OpenSpec.ofChange isaWordsAreOneToOneWrong)

/-- 'simulacrumlaw04.IsaNamesAreOneToOne': WHATEVER THE INPUT: true; the input reads as it did. -/
def isaNamesAreOneToOneSpec : ChangeSpec := { name := "isaNamesAreOneToOne", fn := fun _ => fun
  | [d1, d2] => { results := [.lit (.bool true)], args := [d1, d2] }
  | _ => none }
def isaNamesAreOneToOneRow : OpenClaim := { program := "ytadjlohgmfclpaa", sum := "41ac4722470ffc0e178cba3433eb96e794c02d44cac3298c788e174caf6e6524", func := "simulacrum/simulacrumlaw04.IsaNamesAreOneToOne", spec := "isaNamesAreOneToOne", unfollowed := true, recurses := true, apart := false }
def IsaNamesAreOneToOneSaid : Prop := isaNamesAreOneToOneRow.holds Try.pinned (OpenSpec.ofChange isaNamesAreOneToOneSpec)

/-- ITS FALSE NEIGHBOUR: 'it returns false'. Refute it at one input. -/
def isaNamesAreOneToOneWrong : ChangeSpec := { name := "isaNamesAreOneToOne", fn := fun _ => fun
  | [d1, d2] => { results := [.lit (.bool false)], args := [d1, d2] }
  | _ => none }
def IsaNamesAreOneToOneWrongFalsely : Prop := isaNamesAreOneToOneRow.holds Try.pinned (OpenSpec.ofChange isaNamesAreOneToOneWrong)

/-- 'simulacrumlaw04.IsaTargetsTurnBack': WHATEVER THE INPUT: true; the input reads as it did. -/
def isaTargetsTurnBackSpec : ChangeSpec := { name := "isaTargetsTurnBack", fn := fun _ => fun
  | [d1, d2] => { results := [.lit (.bool true)], args := [d1, d2] }
  | _ => none }
def isaTargetsTurnBackRow : OpenClaim := { program := "ytadjlohgmfclpaa", sum := "41ac4722470ffc0e178cba3433eb96e794c02d44cac3298c788e174caf6e6524", func := "simulacrum/simulacrumlaw04.IsaTargetsTurnBack", spec := "isaTargetsTurnBack", unfollowed := true, recurses := true, apart := false }
def IsaTargetsTurnBackSaid : Prop := isaTargetsTurnBackRow.holds Try.pinned (OpenSpec.ofChange isaTargetsTurnBackSpec)

/-- ITS FALSE NEIGHBOUR: 'it returns false'. Refute it at one input. -/
def isaTargetsTurnBackWrong : ChangeSpec := { name := "isaTargetsTurnBack", fn := fun _ => fun
  | [d1, d2] => { results := [.lit (.bool false)], args := [d1, d2] }
  | _ => none }
def IsaTargetsTurnBackWrongFalsely : Prop := isaTargetsTurnBackRow.holds Try.pinned (OpenSpec.ofChange isaTargetsTurnBackWrong)

/-- 'simulacrumlaw04.IsaNamesAsSpecified': WHATEVER THE INPUT: true; the input reads as it did. -/
def isaNamesAsSpecifiedSpec : ChangeSpec := { name := "isaNamesAsSpecified", fn := fun _ => fun
  | [d1, d2] => { results := [.lit (.bool true)], args := [d1, d2] }
  | _ => none }
def isaNamesAsSpecifiedRow : OpenClaim := { program := "ytadjlohgmfclpaa", sum := "41ac4722470ffc0e178cba3433eb96e794c02d44cac3298c788e174caf6e6524", func := "simulacrum/simulacrumlaw04.IsaNamesAsSpecified", spec := "isaNamesAsSpecified", unfollowed := true, recurses := true, apart := false }
def IsaNamesAsSpecifiedSaid : Prop := isaNamesAsSpecifiedRow.holds Try.pinned (OpenSpec.ofChange isaNamesAsSpecifiedSpec)

/-- ITS FALSE NEIGHBOUR: 'it returns false'. Refute it at one input. -/
def isaNamesAsSpecifiedWrong : ChangeSpec := { name := "isaNamesAsSpecified", fn := fun _ => fun
  | [d1, d2] => { results := [.lit (.bool false)], args := [d1, d2] }
  | _ => none }
def IsaNamesAsSpecifiedWrongFalsely : Prop := isaNamesAsSpecifiedRow.holds Try.pinned (OpenSpec.ofChange isaNamesAsSpecifiedWrong)

/- THE SECOND FORM. 'bulk': how many values and letters a reading holds, each counted each time it is reached (what is shared counts as often as it is met; a slice's spare places count too). A statement '..UptoSaid' is the law's where the arguments, and the package variables that the reading takes, are together of bulk at most 1048576: NARROWER than '..Said'. Prove '..Said' where nothing that the law and all that it calls make is longer than what came in: it says more and counts as full. Else prove '..UptoSaid'. A law counts once. -/
mutual
def uptoBulk {H : Type} : DataW H → Nat
  | .lit (.string bytes) => bytes.length + 1
  | .lit _ => 1
  | .nil => 1
  | .ptr d => uptoBulk d + 1
  | .slice elems spare => uptoBulkAll elems + uptoBulkAll spare + 1
  | .agg parts => uptoBulkAll parts + 1
  | .iface _ d => uptoBulk d + 1
  | .map entries => uptoBulkEntries entries + 1
  | .held _ => 1
def uptoBulkAll {H : Type} : List (DataW H) → Nat
  | [] => 0
  | d :: r => uptoBulk d + uptoBulkAll r
def uptoBulkEntries {H : Type} : List (Lit × DataW H) → Nat
  | [] => 0
  | x :: r => uptoBulkEntry x + uptoBulkEntries r
def uptoBulkEntry {H : Type} : Lit × DataW H → Nat
  | (.string bytes, d) => bytes.length + uptoBulk d + 1
  | (_, d) => uptoBulk d + 1
 end
def uptoSmall : (H : Type) → List (DataW H) → Bool := fun _ ds => decide (uptoBulkAll ds ≤ 1048576)
def OpenSpec.upto (s : _root_.Go.ChangeSpec) : _root_.Go.OpenSpec := { _root_.Go.OpenSpec.ofChange s with cond := some uptoSmall }

/-- 'simulacrumlaw04.IsaEncodesAsSpecified', WHERE WHAT IT READS IS OF BULK AT MOST 1048576: true; the input reads as it did. -/
def isaEncodesAsSpecifiedUptoRow : OpenClaim := { program := "ytadjlohgmfclpaa", sum := "41ac4722470ffc0e178cba3433eb96e794c02d44cac3298c788e174caf6e6524", func := "simulacrum/simulacrumlaw04.IsaEncodesAsSpecified", spec := "isaEncodesAsSpecified", unfollowed := true, recurses := true, apart := false, narrowed := true }
def IsaEncodesAsSpecifiedUptoSaid : Prop := isaEncodesAsSpecifiedUptoRow.holds Try.pinned (OpenSpec.upto isaEncodesAsSpecifiedSpec)

/-- 'simulacrumlaw04.IsaDecodesAsSpecified', WHERE WHAT IT READS IS OF BULK AT MOST 1048576: true; the input reads as it did. -/
def isaDecodesAsSpecifiedUptoRow : OpenClaim := { program := "ytadjlohgmfclpaa", sum := "41ac4722470ffc0e178cba3433eb96e794c02d44cac3298c788e174caf6e6524", func := "simulacrum/simulacrumlaw04.IsaDecodesAsSpecified", spec := "isaDecodesAsSpecified", unfollowed := true, recurses := true, apart := false, narrowed := true }
def IsaDecodesAsSpecifiedUptoSaid : Prop := isaDecodesAsSpecifiedUptoRow.holds Try.pinned (OpenSpec.upto isaDecodesAsSpecifiedSpec)

/-- 'simulacrumlaw04.IsaWordsAreOneToOne', WHERE WHAT IT READS IS OF BULK AT MOST 1048576: true; the input reads as it did. -/
def isaWordsAreOneToOneUptoRow : OpenClaim := { program := "ytadjlohgmfclpaa", sum := "41ac4722470ffc0e178cba3433eb96e794c02d44cac3298c788e174caf6e6524", func := "simulacrum/simulacrumlaw04.IsaWordsAreOneToOne", spec := "isaWordsAreOneToOne", unfollowed := true, recurses := true, apart := false, narrowed := true }
def IsaWordsAreOneToOneUptoSaid : Prop := isaWordsAreOneToOneUptoRow.holds Try.pinned (OpenSpec.upto isaWordsAreOneToOneSpec)

/-- 'simulacrumlaw04.IsaNamesAreOneToOne', WHERE WHAT IT READS IS OF BULK AT MOST 1048576: true; the input reads as it did. -/
def isaNamesAreOneToOneUptoRow : OpenClaim := { program := "ytadjlohgmfclpaa", sum := "41ac4722470ffc0e178cba3433eb96e794c02d44cac3298c788e174caf6e6524", func := "simulacrum/simulacrumlaw04.IsaNamesAreOneToOne", spec := "isaNamesAreOneToOne", unfollowed := true, recurses := true, apart := false, narrowed := true }
def IsaNamesAreOneToOneUptoSaid : Prop := isaNamesAreOneToOneUptoRow.holds Try.pinned (OpenSpec.upto isaNamesAreOneToOneSpec)

/-- 'simulacrumlaw04.IsaTargetsTurnBack', WHERE WHAT IT READS IS OF BULK AT MOST 1048576: true; the input reads as it did. -/
def isaTargetsTurnBackUptoRow : OpenClaim := { program := "ytadjlohgmfclpaa", sum := "41ac4722470ffc0e178cba3433eb96e794c02d44cac3298c788e174caf6e6524", func := "simulacrum/simulacrumlaw04.IsaTargetsTurnBack", spec := "isaTargetsTurnBack", unfollowed := true, recurses := true, apart := false, narrowed := true }
def IsaTargetsTurnBackUptoSaid : Prop := isaTargetsTurnBackUptoRow.holds Try.pinned (OpenSpec.upto isaTargetsTurnBackSpec)

/-- 'simulacrumlaw04.IsaNamesAsSpecified', WHERE WHAT IT READS IS OF BULK AT MOST 1048576: true; the input reads as it did. -/
def isaNamesAsSpecifiedUptoRow : OpenClaim := { program := "ytadjlohgmfclpaa", sum := "41ac4722470ffc0e178cba3433eb96e794c02d44cac3298c788e174caf6e6524", func := "simulacrum/simulacrumlaw04.IsaNamesAsSpecified", spec := "isaNamesAsSpecified", unfollowed := true, recurses := true, apart := false, narrowed := true }
def IsaNamesAsSpecifiedUptoSaid : Prop := isaNamesAsSpecifiedUptoRow.holds Try.pinned (OpenSpec.upto isaNamesAsSpecifiedSpec)

end Rows
end Go.Proofs.Ytadjlohgmfclpaa
