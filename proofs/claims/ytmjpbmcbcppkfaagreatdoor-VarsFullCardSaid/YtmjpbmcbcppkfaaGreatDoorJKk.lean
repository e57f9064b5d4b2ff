/- Walks of lintellaw21: works. Walk of lintellaw21: KeepNil. Conditions: the premises of each law. -/
import Derived.Test.YtmjpbmcbcppkfaaGreatDoorJKj
namespace Go.Proofs.YtmjpbmcbcppkfaaGreatDoor
open Go.RowKit
set_option linter.unusedVariables false
set_option linter.unusedSimpArgs false
set_option maxRecDepth 100000
set_option maxHeartbeats 1500000
end Go.Proofs.YtmjpbmcbcppkfaaGreatDoor
namespace Go.Proofs.YtmjpbmcbcppkfaaGreatDoor
open Go.RowKit
set_option linter.unusedVariables false
set_option linter.unusedSimpArgs false
set_option maxRecDepth 100000
set_option maxHeartbeats 1500000
theorem varA_asL {rows : List Ent} {x x0 : AV} (h : As rows x x0) (v : VarV) : AsL rows (varA x v) (varA x0 v) := by
 unfold varA
 repeat (first | exact asL_nil | refine asL_cons as_val ?_)
 exact asL_cons h asL_nil
theorem varZ_ok : varZ.Ok := ⟨by decide, by decide, by decide, by unfold Tm.ok varZ; decide, by decide, by decide⟩
theorem samez_vc : Spec Tryz.prog 18 [.agg (varA (.val (.slice none 0 0)) varZ), .agg (varA (.val (.slice none 0 0)) varZ)] [] (pms (.val (.bool true)) [] []) := by
 have h := samevar_vc varZ varZ varZ_ok varZ_ok 0 0
 rw [(sameV_iff varZ_ok varZ_ok).2 rfl] at h
 exact spec_ro h trivial trivial (rows := []) (asL_cons (as_agg (varA_asL as_nil _)) (asL_cons (as_agg (varA_asL as_nil _)) asL_nil))
end Go.Proofs.YtmjpbmcbcppkfaaGreatDoor
