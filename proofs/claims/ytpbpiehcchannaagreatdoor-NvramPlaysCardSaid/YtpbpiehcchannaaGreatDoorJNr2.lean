/- Walks of lintelref09: the map, as sorted records. Conditions: none. -/
import Derived.Test.YtpbpiehcchannaaGreatDoorJHq
namespace Go.Proofs.YtpbpiehcchannaaGreatDoor
open Go.RowKit
set_option linter.unusedVariables false
set_option linter.unusedSimpArgs false
set_option maxRecDepth 100000
set_option maxHeartbeats 1500000
end Go.Proofs.YtpbpiehcchannaaGreatDoor
