/- The law BankHeads from its arguments. Conditions: none. -/
import Derived.Test.YtddocchgikaahaaDoorBl1
import Derived.Test.YtddocchgikaahaaDoorBk17
namespace Go.Proofs.YtddocchgikaahaaDoor
open Go.RowKit Go.ChangeShapes Go.WideShapes Go.ChangeAt
set_option linter.unusedVariables false
set_option linter.unusedSimpArgs false
set_option maxRecDepth 100000
theorem walk_BankHeads (W : World) (hL : laidMetH Tryd.prog laidL W) (v : Value) (l : List OpB) (h : (l.length * 72 ≤ reachBytes ∧ ∀ o ∈ l, OpBOk o) ∧ rep (env0 W) W (.sl 0 5 (opB 0) opB0 l) v) (g : Int) (w1 : (Lit.int .u32 g).wf = true) (n : Int) (w2 : (Lit.int .u16 n).wf = true) (p : Int) (w3 : (Lit.int .u8 p).wf = true) :
    Calls Tryd.prog 8 #[v, .int .u32 g, .int .u16 n, .int .u8 p] W fun e W' => e = .returned (.bool true) ∧ Below W.heap.size W W' := 
  join_val (law_heads l h.1.2 0 g n p (bounds_u32 w1) (bounds_u16 w2) (bounds_u8 w3)) (cargs := [v, .int .u32 g, .int .u16 n, .int .u8 p]) (by simp only [reps, rep, Value.cells]; exact ⟨_, _, rfl, h.2, _, _, rfl, rfl, _, _, rfl, rfl, _, _, rfl, rfl, rfl⟩) (gl_of_laid hL)
end Go.Proofs.YtddocchgikaahaaDoor
