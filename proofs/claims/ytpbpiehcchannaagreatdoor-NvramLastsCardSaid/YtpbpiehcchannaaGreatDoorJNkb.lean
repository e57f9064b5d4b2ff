/- Walks of lintellaw09: NvramStill. Conditions: none. -/
import Derived.Test.YtpbpiehcchannaaGreatDoorJNka
namespace Go.Proofs.YtpbpiehcchannaaGreatDoor
open Go.RowKit
set_option linter.unusedVariables false
set_option linter.unusedSimpArgs false
set_option maxRecDepth 100000
set_option maxHeartbeats 1500000
theorem eqR_self (R : List RK) : eqR R R = true := decide_eq_true ⟨rfl, rfl⟩
end Go.Proofs.YtpbpiehcchannaaGreatDoor
