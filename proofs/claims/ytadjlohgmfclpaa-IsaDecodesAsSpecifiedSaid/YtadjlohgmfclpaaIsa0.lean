/- The examples are as the chapter says. -/
import Derived.Test.YtadjlohgmfclpaaIsaD
import Derived.Test.YtadjlohgmfclpaaIsaN0
set_option linter.unusedVariables false
namespace Go.Proofs.Ytadjlohgmfclpaa
open Go.AE
set_option maxRecDepth 1000000 in
theorem sanity_true (k : Nat) : D (k + 9) 13 [] = some (.bool true) := by kernel_rfl
end Go.Proofs.Ytadjlohgmfclpaa
