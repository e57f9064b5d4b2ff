/- The law VarsFull from its arguments. Conditions: none. -/
import Derived.Test.YtmjpbmcbcppkfaaGreatDoorJVve
import Derived.Test.YtmjpbmcbcppkfaaGreatDoorJVvf
namespace Go.Proofs.YtmjpbmcbcppkfaaGreatDoor
open Go.RowKit Go.ChangeShapes Go.WideShapes Go.ChangeAt
set_option linter.unusedVariables false
set_option linter.unusedSimpArgs false
set_option maxRecDepth 100000
set_option maxHeartbeats 1500000
section
variable {W : World} {H : Type} {enc : TypeId × Value → H} {R : Nat}
theorem open_bytesV {r : Reach} {b0 : Nat} {v : Value} {d : DataW H} {p : List MemPlace} (hv : Value.okWide Tryz.prog W r b0 24 v) (h : DataW.Trod enc Tryz.prog W 0 (fun _ => true) true 24 v d p) (hb : ∀ n ∈ d.weights Tryz.prog 24, n ≤ reachBytes) : ∃ l : List UInt8, l.length ≤ 140737488355328 ∧ rep (env0 W) W (.bs 0 l) v := by
 obtain ⟨a, n, c, rfl⟩ := okWide_slice Tryz.underlying24 hv
 obtain ⟨fuel, hf⟩ := h
 obtain ⟨l, h1, h2⟩ := ocr_bytes Tryz.underlying24 Tryz.underlying5 (by kernel_rfl) (by kernel_rfl) _ _ _ hf hb
 refine ⟨l, Nat.le_trans h1 (by decide), ?_⟩
 simp only [reps] at h2
 obtain ⟨u, us, h3, h4, h5⟩ := h2
 subst h5
 simp only [Value.cells, List.cons.injEq, and_true] at h3
 rw [h3]; exact h4
theorem open_u16s {r : Reach} {b0 : Nat} {v : Value} {d : DataW H} {p : List MemPlace} (hv : Value.okWide Tryz.prog W r b0 44 v) (h : DataW.Trod enc Tryz.prog W 0 (fun _ => true) true 44 v d p) (hb : ∀ n ∈ d.weights Tryz.prog 44, n ≤ reachBytes) : ∃ L : List Int, (L.length ≤ 140737488355328 ∧ ∀ v ∈ L, 0 ≤ v ∧ v ≤ 65535) ∧ rep (env0 W) W (.sl 0 1 (fun n : Int => [.val (.int .u16 n)]) 0 L) v := by
 obtain ⟨a, n, c, rfl⟩ := okWide_slice Tryz.underlying44 hv
 obtain ⟨fuel, hf⟩ := h
 obtain ⟨l, ⟨⟨h0, h00⟩, h1⟩, h2⟩ := ocr_slice Tryz.underlying44 (sz := 1) (by kernel_rfl) (by decide) (0 : Int) (ocr_of (oc_int Tryz.underlying29)) _ _ _ hf hb
 rw [show Tryz.prog.bytesOf 29 = 2 by kernel_rfl] at h00
 have hr : reachBytes ≤ 140737488355328 := by decide
 refine ⟨l, ⟨by omega, fun v hv => bounds_u16 (h1 v hv)⟩, ?_⟩
 simp only [reps] at h2
 obtain ⟨u, us, h3, h4, h5⟩ := h2
 subst h5
 simp only [Value.cells, List.cons.injEq, and_true] at h3
 rw [h3]; exact h4
end
theorem walk_VarsFull (W : World) (hL : laidMetH Tryz.prog laidL W) (z : Int) (wz : (Lit.int .u16 z).wf = true) (v : Value) (l : List UInt8) (hl : l.length ≤ 140737488355328 ∧ rep (env0 W) W (.bs 0 l) v) (q : Value) (L : List Int) (hq : (L.length ≤ 140737488355328 ∧ ∀ v ∈ L, 0 ≤ v ∧ v ≤ 65535) ∧ rep (env0 W) W (.sl 0 1 (fun n : Int => [.val (.int .u16 n)]) 0 L) q) :
    Calls Tryz.prog 4 #[.int .u16 z, v, q] W fun e W' => e = .returned (.bool true) ∧ Below W.heap.size W W' :=
 join_val (law_varsfull z (bounds_u16 wz) l hl.1 L hq.1.2 hq.1.1) (cargs := [.int .u16 z, v, q]) (by simp only [reps]; exact ⟨_, _, rfl, by rw [rep], _, _, rfl, hl.2, _, _, rfl, hq.2, rfl⟩) (gl_of_laid hL)
end Go.Proofs.YtmjpbmcbcppkfaaGreatDoor
