/- The examples are as the chapter says. -/
import Derived.Test.YtcknhfnbdgleiaaTbD
import Derived.Test.YtcknhfnbdgleiaaTbN0
set_option linter.unusedVariables false
namespace Go.Proofs.Ytcknhfnbdgleiaa
open Go.AE
set_option maxRecDepth 1000000 in
theorem sanity_true (k : Nat) : D (k + 9) 37 [] = some (.bool true) := by kernel_rfl
end Go.Proofs.Ytcknhfnbdgleiaa
