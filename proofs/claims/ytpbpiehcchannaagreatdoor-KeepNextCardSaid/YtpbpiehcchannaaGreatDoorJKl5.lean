/- The arguments of the laws of a book: things done, variables. Conditions: none. -/
import Derived.Test.YtpbpiehcchannaaGreatDoorJKp
namespace Go.Proofs.YtpbpiehcchannaaGreatDoor
open Go.RowKit Go.ChangeShapes Go.WideShapes Go.ChangeAt
set_option linter.unusedVariables false
set_option linter.unusedSimpArgs false
set_option maxRecDepth 100000
set_option maxHeartbeats 1500000
section
variable {W : World} {H : Type} {enc : TypeId × Value → H} {R : Nat}
theorem open_vars {r : Reach} {b0 : Nat} {v : Value} {d : DataW H} {p : List MemPlace} (hv : Value.okWide Tryz.prog W r b0 69 v) (h : DataW.Trod enc Tryz.prog W 0 (fun _ => true) true 69 v d p) (hb : ∀ n ∈ d.weights Tryz.prog 69, n ≤ reachBytes) : ∃ l : List VarV, (∀ o ∈ l, o.Ok) ∧ rep (env0 W) W (.sl 0 57 (fun v => varA (.bs 0 v.d) v) varZ l) v := by
 obtain ⟨a, n, c, rfl⟩ := okWide_slice Tryz.underlying69 hv
 obtain ⟨fuel, hf⟩ := h
 obtain ⟨l, ⟨⟨_, h0⟩, h1⟩, h2⟩ := ocr_slice Tryz.underlying69 (sz := 57) (by kernel_rfl) (by decide) varZ ocr_var _ _ _ hf hb
 refine ⟨l, h1, ?_⟩
 simp only [reps] at h2
 obtain ⟨u, us, h3, h4, h5⟩ := h2
 subst h5
 simp only [Value.cells, List.cons.injEq, and_true] at h3
 rw [h3]; exact h4
end
end Go.Proofs.YtpbpiehcchannaaGreatDoor
