/- All equations. (Printed by a program of mine, gen.py.) -/
import Derived.Test.YtcknhfnbdgleiaaGreatCoN0
import Derived.Test.YtcknhfnbdgleiaaGreatCoN1
import Derived.Test.YtcknhfnbdgleiaaGreatCoN2
import Derived.Test.YtcknhfnbdgleiaaGreatCoN3
set_option linter.unusedVariables false
set_option linter.unusedSimpArgs false
namespace Go.Proofs.YtcknhfnbdgleiaaGreat
open Go.AE
end Go.Proofs.YtcknhfnbdgleiaaGreat
