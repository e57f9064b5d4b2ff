/- Walks of flash: New. Conditions: none. -/
import Derived.Test.YtddocchgikaahaaDoorAw
import Derived.Test.YtddocchgikaahaaDoorAf11
namespace Go.Proofs.YtddocchgikaahaaDoor
open Go.RowKit
set_option linter.unusedVariables false
set_option linter.unusedSimpArgs false
set_option maxRecDepth 100000
theorem newBad_vc (x y : Int) (hx : I64 x) (hy : I64 y) (h : ¬ (1 ≤ x ∧ x ≤ 64 ∧ 16 ≤ y ∧ y ≤ 65536)) : Spec Tryd.prog 10 [.val (.int .i64 x), .val (.int .i64 y)] [] (pms (.tup [.val (.pointer none), .val (.int .i64 1)]) [] []) := by
  refine spec_entry tbOk Tryd.func10 rfl Tryd.ntmps10 Tryd.results10 ?_
  (repeat (first | refine gos (k := ?_) | refine fun (_ : _ = false) => ?_ | refine ⟨fun (_ : true = true) => ?_, fun h => absurd h (by decide)⟩ | refine gtr (k := ?_)))
  exact ⟨_, rfl, rfl, trivial⟩
theorem new_vc (x y : Nat) (h1 : 1 ≤ x ∧ x ≤ 64) (h2 : 16 ≤ y ∧ y ≤ 65536) : Spec Tryd.prog 10 [.val (.int .i64 x), .val (.int .i64 y)] [] (pms (.tup [.ref 27 1 6 0 0, .val (.int .i64 0)]) [] [(27, ⟨1, .obj [.own 24 2 1 0 (x * y), .val (.int .i64 y), .val (.int .i64 0), .val (.int .i64 0), .val (.bool false), .val (.int .i64 0)]⟩), (24, ⟨2, .bytes (List.replicate (x * y) 255)⟩)]) := by
  have hxy : x * y ≤ 4194304 := Nat.le_trans (Nat.mul_le_mul h1.2 h2.2) (by decide)
  have hxy0 : 0 < x * y := Nat.mul_pos (by omega) (by omega)
  have hc : (x : Int) * (y : Int) = ((x * y : Nat) : Int) := by push_cast; rfl
  refine spec_entry tbOk Tryd.func10 rfl Tryd.ntmps10 Tryd.results10 ?_
  (repeat (first | refine gos (k := ?_) | refine fun (_ : _ = false) => ?_ | refine ⟨fun (_ : true = true) => ?_, fun h => absurd h (by decide)⟩ | refine gtr (k := ?_)))
  rw [hc]
  have rp : Spec Tryd.prog 31 [.own 0 1 1 0 1, .val (.int .i64 ((x * y : Nat) : Int))] [⟨1, .bytes [255]⟩] (pms (.own 55 1 1 0 (x * y)) [⟨1, .bytes [255]⟩] [(55, ⟨1, .bytes (List.replicate (x * y) 255)⟩)]) :=
    spec_ro (repeat_vc 0 255 (x * y) hxy0 hxy) trivial ⟨trivial, trivial⟩ (asL_cons (as_own (l := [255]) (off := 0) (n := 1) rfl (by decide)) (asL_cons as_val asL_nil))
  refine cmks (rp) Tryd.call31 1 [20, 0, 0, 0, 0, 0, 0, 0, 0, 0, 0, 0, 0, 0, 0, 0, 0, 0, 0, 0, 0, 0, 0, 0, 0, 0, 0, 0, 0, 0, 0, 0, 0, 0, 0, 0, 0, 0, 0, 0, 0, 0, 0, 0, 0, 0, 0, 0, 0, 0, 0, 0, 0, 0, 0, 24] [0, 0, 0, 0, 0, 0, 0, 0, 0, 0, 0, 0, 0, 0, 0, 0, 0, 0, 0, 0, 0, 0, 0, 0, 0, 0, 0, 0, 0, 0, 0, 0, 0, 0, 0, 0, 0, 0, 0, 0, 0, 0, 0, 0, 0, 0, 0, 0, 0, 0, 0, 0, 0, 0, 0, 1] [55] ?_
  (repeat (first | refine gos (k := ?_) | refine fun (_ : _ = false) => ?_ | refine ⟨fun (_ : true = true) => ?_, fun h => absurd h (by decide)⟩ | refine gtr (k := ?_)))
  exact ⟨_, rfl, rfl, rfl, rfl, trivial⟩
end Go.Proofs.YtddocchgikaahaaDoor
