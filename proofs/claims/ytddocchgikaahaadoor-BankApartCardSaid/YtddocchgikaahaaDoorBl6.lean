/- The law BankApart from its arguments. Conditions: none. -/
import Derived.Test.YtddocchgikaahaaDoorBl1
import Derived.Test.YtddocchgikaahaaDoorBk25
namespace Go.Proofs.YtddocchgikaahaaDoor
open Go.RowKit Go.ChangeShapes Go.WideShapes Go.ChangeAt
set_option linter.unusedVariables false
set_option linter.unusedSimpArgs false
set_option maxRecDepth 100000
theorem walk_BankApart (W : World) (hL : laidMetH Tryd.prog laidL W) (v : Value) (l : List OpB) (h : (l.length * 72 ≤ reachBytes ∧ ∀ o ∈ l, OpBOk o) ∧ rep (env0 W) W (.sl 0 5 (opB 0) opB0 l) v) (v1 : Value) (r : List OpB) (h1 : (r.length * 72 ≤ reachBytes ∧ ∀ o ∈ r, OpBOk o) ∧ rep (env0 W) W (.sl 0 5 (opB 0) opB0 r) v1) :
    Calls Tryd.prog 7 #[v, v1] W fun e W' => e = .returned (.bool true) ∧ Below W.heap.size W W' :=
  join_val (law_apart l r h.1.2 h1.1.2 0 0) (cargs := [v, v1]) (by simp only [reps, rep, Value.cells]; exact ⟨_, _, rfl, h.2, _, _, rfl, h1.2, rfl⟩) (gl_of_laid hL)
end Go.Proofs.YtddocchgikaahaaDoor
