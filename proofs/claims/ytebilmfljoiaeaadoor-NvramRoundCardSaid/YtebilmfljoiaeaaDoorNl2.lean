/- The law NvramRound from its arguments. Conditions: none. -/
import Derived.Test.YtebilmfljoiaeaaDoorNl1
import Derived.Test.YtebilmfljoiaeaaDoorNv18
namespace Go.Proofs.YtebilmfljoiaeaaDoor
open Go.RowKit Go.ChangeShapes Go.WideShapes Go.ChangeAt
set_option linter.unusedVariables false
set_option linter.unusedSimpArgs false
set_option maxRecDepth 100000
theorem nat_of_u8 {n : Int} (h : (Lit.int .u8 n).wf = true) : ∃ a : Nat, n = (a : Int) ∧ a < 256 := by
  have := bounds_u8 h
  exact ⟨n.toNat, by omega, by omega⟩
theorem walk_NvramRound (W : World) (hL : laidMetH Tryd.prog laidL W) (a : Int) (wa : (Lit.int .u8 a).wf = true) (b : Int) (wb : (Lit.int .u8 b).wf = true) (d : Int) (wd : (Lit.int .u8 d).wf = true) :
    Calls Tryd.prog 3 #[.int .u8 a, .int .u8 b, .int .u8 d] W fun e W' => e = .returned (.bool true) ∧ Below W.heap.size W W' := by
  obtain ⟨x, rfl, hx⟩ := nat_of_u8 wa
  obtain ⟨y, rfl, hy⟩ := nat_of_u8 wb
  obtain ⟨z, rfl, hz⟩ := nat_of_u8 wd
  exact join_val (law_round x y z hx hy hz) (cargs := [.int .u8 x, .int .u8 y, .int .u8 z]) (by simp only [reps, rep, Value.cells]; exact ⟨_, _, rfl, rfl, _, _, rfl, rfl, _, _, rfl, rfl, rfl⟩) (gl_of_laid hL)
end Go.Proofs.YtebilmfljoiaeaaDoor
