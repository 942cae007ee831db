/- Entries of tables; pages of zeros. -/
import Derived.Test.YtcknhfnbdgleiaaCot4
set_option linter.unusedVariables false
set_option linter.unusedSimpArgs false
namespace Go.Proofs.Ytcknhfnbdgleiaa
open Go.AE
abbrev iv (n : Nat) : AV := .int .i64 (n : Int)
end Go.Proofs.Ytcknhfnbdgleiaa
