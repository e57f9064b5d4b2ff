/- What is done, as a law's caller hands it in. Calls of a store one behind the other, and the map beside it: the plain law. Conditions: the premises of each law. -/
import Derived.Test.YtpbpiehcchannaaGreatDoorJHf
namespace Go.Proofs.YtpbpiehcchannaaGreatDoor
set_option linter.unusedVariables false
set_option linter.unusedSimpArgs false
set_option maxRecDepth 100000
set_option maxHeartbeats 1500000
open Go.RowKit
end Go.Proofs.YtpbpiehcchannaaGreatDoor
