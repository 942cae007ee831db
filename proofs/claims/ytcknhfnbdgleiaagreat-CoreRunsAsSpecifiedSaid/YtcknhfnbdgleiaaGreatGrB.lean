/- The runs' law and the arguments. -/
import Derived.Test.YtcknhfnbdgleiaaGreatGrA
import Derived.Test.YtcknhfnbdgleiaaGreatGr12
