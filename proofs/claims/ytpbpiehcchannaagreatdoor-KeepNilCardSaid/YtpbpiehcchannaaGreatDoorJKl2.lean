/- The law KeepNil from its arguments. Conditions: none. -/
import Derived.Test.YtpbpiehcchannaaGreatDoorJKl0
import Derived.Test.YtpbpiehcchannaaGreatDoorJKl1
import Derived.Test.YtpbpiehcchannaaGreatDoorJKbc
namespace Go.Proofs.YtpbpiehcchannaaGreatDoor
open Go.RowKit Go.ChangeShapes Go.WideShapes Go.ChangeAt
set_option linter.unusedVariables false
set_option linter.unusedSimpArgs false
set_option maxRecDepth 100000
set_option maxHeartbeats 1500000
theorem walk_KeepNil (W : World) (hL : laidMetH Tryz.prog laidL W) (v : Value) (o : VarV) (h : o.Ok ∧ rep (env0 W) W (.agg (varA (.bs 0 o.d) o)) v) (x : Int) (wx : (Lit.int .u8 x).wf = true) :
    Calls Tryz.prog 10 #[v, .int .u8 x] W fun e W' => e = .returned (.bool true) ∧ Below W.heap.size W W' :=
 join_val (law_keepnil o h.1 x (bounds_u8 wx)) (cargs := [v, .int .u8 x]) (by simp only [reps]; exact ⟨_, _, rfl, h.2, _, _, rfl, by rw [rep], rfl⟩) (gl_of_laid hL)
end Go.Proofs.YtpbpiehcchannaaGreatDoor
