/- The law KeepNext from its arguments. Conditions: none. -/
import Derived.Test.YtpbpiehcchannaaGreatDoorJKp
import Derived.Test.YtpbpiehcchannaaGreatDoorJKl5
import Derived.Test.YtpbpiehcchannaaGreatDoorJKd2
namespace Go.Proofs.YtpbpiehcchannaaGreatDoor
open Go.RowKit Go.ChangeShapes Go.WideShapes Go.ChangeAt
set_option linter.unusedVariables false
set_option linter.unusedSimpArgs false
set_option maxRecDepth 100000
set_option maxHeartbeats 1500000
theorem walk_KeepNext (W : World) (hL : laidMetH Tryz.prog laidL W) (z : Int) (wz : (Lit.int .u16 z).wf = true) (v : Value) (l : List VarV) (hl : (∀ o ∈ l, o.Ok) ∧ rep (env0 W) W (.sl 0 57 (fun v => varA (.bs 0 v.d) v) varZ l) v) (q : Value) (o : VarV) (ho : o.Ok ∧ rep (env0 W) W (.agg (varA (.bs 0 o.d) o)) q) :
    Calls Tryz.prog 7 #[.int .u16 z, v, q] W fun e W' => e = .returned (.bool true) ∧ Below W.heap.size W W' :=
 join_val (law_keepnext z (bounds_u16 wz) l hl.1 o ho.1) (cargs := [.int .u16 z, v, q]) (by simp only [reps]; exact ⟨_, _, rfl, by rw [rep], _, _, rfl, hl.2, _, _, rfl, ho.2, rfl⟩) (gl_of_laid hL)
end Go.Proofs.YtpbpiehcchannaaGreatDoor
