/- The specification's Walk. -/
import Derived.Test.YtcknhfnbdgleiaaCot8
set_option linter.unusedVariables false
set_option linter.unusedSimpArgs false
namespace Go.Proofs.Ytcknhfnbdgleiaa
open Go.AE

theorem Jq {m : Pgs} (w : Wm m) {e : Nat} (h : right m e = true) (h5 : hb e 64 = false) : pa e < 8192 := by
 have := w.le
 simp [right, h5] at h
 have := Ci h.2
 omega
end Go.Proofs.Ytcknhfnbdgleiaa
