/- The law BankHolds from its arguments. Conditions: none. -/
import Derived.Test.YtddocchgikaahaaDoorBl1
import Derived.Test.YtddocchgikaahaaDoorBk23
namespace Go.Proofs.YtddocchgikaahaaDoor
open Go.RowKit Go.ChangeShapes Go.WideShapes Go.ChangeAt
set_option linter.unusedVariables false
set_option linter.unusedSimpArgs false
set_option maxRecDepth 100000
theorem walk_BankHolds (W : World) (hL : laidMetH Tryd.prog laidL W) (v : Value) (l : List OpB) (h : (l.length * 72 ≤ reachBytes ∧ ∀ o ∈ l, OpBOk o) ∧ rep (env0 W) W (.sl 0 5 (opB 0) opB0 l) v) (n : Int) (w1 : (Lit.int .u8 n).wf = true) :
    Calls Tryd.prog 3 #[v, .int .u8 n] W fun e W' => e = .returned (.bool true) ∧ Below W.heap.size W W' :=
  join_val (law_holds l h.1.2 0 n (bounds_u8 w1)) (cargs := [v, .int .u8 n]) (by simp only [reps, rep, Value.cells]; exact ⟨_, _, rfl, h.2, _, _, rfl, rfl, rfl⟩) (gl_of_laid hL)
end Go.Proofs.YtddocchgikaahaaDoor
