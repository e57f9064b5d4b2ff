/- The law NvramMaps from its arguments. Conditions: none. -/
import Derived.Test.YtpbpiehcchannaaGreatDoorJNl3
import Derived.Test.YtpbpiehcchannaaGreatDoorJNkd
namespace Go.Proofs.YtpbpiehcchannaaGreatDoor
open Go.RowKit Go.ChangeShapes Go.WideShapes Go.ChangeAt
set_option linter.unusedVariables false
set_option linter.unusedSimpArgs false
set_option maxRecDepth 100000
set_option maxHeartbeats 1500000
theorem walk_NvramMaps (W : World) (hL : laidMetH Tryz.prog laidL W) (a : Int) (wa : (Lit.int .i64 a).wf = true) (b : Int) (wb : (Lit.int .i64 b).wf = true) (v : Value) (l : List OpB) (h : (l.length * 72 ≤ reachBytes ∧ ∀ o ∈ l, OpBOk o) ∧ rep (env0 W) W (.sl 0 5 (opB 0) opB0 l) v) :
    Calls Tryz.prog 4 #[.int .i64 a, .int .i64 b, v] W fun e W' => e = .returned (.bool true) ∧ Below W.heap.size W W' :=
  join_val (law_maps a b (bounds_i64 wa) (bounds_i64 wb) l h.1.2) (cargs := [.int .i64 a, .int .i64 b, v]) (by simp only [reps, rep, Value.cells]; exact ⟨_, _, rfl, rfl, _, _, rfl, rfl, _, _, rfl, h.2, rfl⟩) (gl_of_laid hL)
end Go.Proofs.YtpbpiehcchannaaGreatDoor
