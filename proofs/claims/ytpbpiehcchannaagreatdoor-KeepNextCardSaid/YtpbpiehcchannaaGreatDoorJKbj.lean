/- Walks of lintellaw21: does. Conditions: none. -/
import Derived.Test.YtpbpiehcchannaaGreatDoorJKo2
namespace Go.Proofs.YtpbpiehcchannaaGreatDoor
open Go.RowKit
set_option linter.unusedVariables false
set_option linter.unusedSimpArgs false
set_option maxRecDepth 100000
set_option maxHeartbeats 1500000
end Go.Proofs.YtpbpiehcchannaaGreatDoor
