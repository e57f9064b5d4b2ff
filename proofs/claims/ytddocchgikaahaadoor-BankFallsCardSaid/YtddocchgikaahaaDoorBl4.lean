/- The law BankFalls from its arguments. Conditions: none. -/
import Derived.Test.YtddocchgikaahaaDoorBl1
import Derived.Test.YtddocchgikaahaaDoorBk22
namespace Go.Proofs.YtddocchgikaahaaDoor
open Go.RowKit Go.ChangeShapes Go.WideShapes Go.ChangeAt
set_option linter.unusedVariables false
set_option linter.unusedSimpArgs false
set_option maxRecDepth 100000
section
variable {W : World} {H : Type} {enc : TypeId × Value → H}
theorem open_bytesW {r : Reach} {b0 : Nat} {v : Value} {d : DataW H} {p : List MemPlace} (hv : Value.okWide Tryd.prog W r b0 36 v) (h : DataW.Trod enc Tryd.prog W 0 (fun _ => true) true 36 v d p) (hb : ∀ n ∈ d.weights Tryd.prog 36, n ≤ reachBytes) : ∃ l : List UInt8, l.length ≤ 140737488355328 ∧ rep (env0 W) W (.bs 0 l) v := by
  obtain ⟨a, n, c, rfl⟩ := okWide_slice Tryd.underlying36 hv
  obtain ⟨fuel, hf⟩ := h
  obtain ⟨l, h1, h2⟩ := ocr_bytes Tryd.underlying36 Tryd.underlying5 (by kernel_rfl) (by kernel_rfl) _ _ _ hf hb
  refine ⟨l, Nat.le_trans h1 (by decide), ?_⟩
  simp only [reps] at h2
  obtain ⟨u, us, h3, h4, h5⟩ := h2
  subst h5
  simp only [Value.cells, List.cons.injEq, and_true] at h3
  rw [h3]; exact h4
end
theorem walk_BankFalls (W : World) (hL : laidMetH Tryd.prog laidL W) (v : Value) (l : List OpB) (h : (l.length * 72 ≤ reachBytes ∧ ∀ o ∈ l, OpBOk o) ∧ rep (env0 W) W (.sl 0 5 (opB 0) opB0 l) v) (v1 : Value) (key : List UInt8) (h1 : key.length ≤ 140737488355328 ∧ rep (env0 W) W (.bs 0 key) v1) (v2 : Value) (val : List UInt8) (h2 : val.length ≤ 140737488355328 ∧ rep (env0 W) W (.bs 0 val) v2) (n : Int) (w1 : (Lit.int .i64 n).wf = true) :
    Calls Tryd.prog 4 #[v, v1, v2, .int .i64 n] W fun e W' => e = .returned (.bool true) ∧ Below W.heap.size W W' :=
  join_val (law_falls l h.1.2 0 0 0 key val h1.1 h2.1 n (bounds_i64 w1)) (cargs := [v, v1, v2, .int .i64 n]) (by simp only [reps, rep, Value.cells]; exact ⟨_, _, rfl, h.2, _, _, rfl, h1.2, _, _, rfl, h2.2, _, _, rfl, rfl, rfl⟩) (gl_of_laid hL)
end Go.Proofs.YtddocchgikaahaaDoor
