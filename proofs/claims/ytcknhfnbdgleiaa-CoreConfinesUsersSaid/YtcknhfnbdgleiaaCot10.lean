/- The specification's Walk; the same walks. -/
import Derived.Test.YtcknhfnbdgleiaaCot9
set_option linter.unusedVariables false
set_option linter.unusedSimpArgs false
namespace Go.Proofs.Ytcknhfnbdgleiaa
open Go.AE
end Go.Proofs.Ytcknhfnbdgleiaa
