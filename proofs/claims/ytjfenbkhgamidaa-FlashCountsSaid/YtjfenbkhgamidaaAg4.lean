/- Walks of lintellaw07: works. Conditions: none. -/
import Derived.Test.YtjfenbkhgamidaaAw
import Derived.Test.YtjfenbkhgamidaaAg2
namespace Go.Proofs.Ytjfenbkhgamidaa
open Go.RowKit
set_option linter.unusedVariables false
set_option linter.unusedSimpArgs false
set_option maxRecDepth 100000
def FS.new (x y : Nat) : FS := ⟨List.replicate (x * y) 255, y, 0, 0, false, 0⟩
theorem spec_new (x y : Nat) (h1 : 1 ≤ x ∧ x ≤ 64) (h2 : 16 ≤ y ∧ y ≤ 65536) : Spec Try.prog 21 [.val (.int .i64 x), .val (.int .i64 y)] [] (pms (.tup [.ref 27 1 6 0 0, .val (.int .i64 0)]) [] [(27, ⟨1, .obj [.own 24 2 1 0 (FS.new x y).l.length, .val (.int .i64 ((FS.new x y).k : Int)), .val (.int .i64 (FS.new x y).ar), .val (.int .i64 (FS.new x y).pt), .val (.bool (FS.new x y).dd), .val (.int .i64 (FS.new x y).wr)]⟩), (24, ⟨2, .bytes (FS.new x y).l⟩)]) := by
  have h := new_vc x y h1 h2
  have e : (FS.new x y).l.length = x * y := by simp [FS.new]
  rw [e]
  exact h
def w1 : FS := ⟨((List.replicate 32 255).set 3 15).set 4 240, 16, 0, 0, false, 2⟩
def w2 : FS := ⟨((List.replicate 32 255).set 3 8).set 4 240, 16, 0, 0, false, 3⟩
theorem ew1 : (FS.new 2 16).prog 3 [15, 240] = (0, w1) := by kernel_rfl
theorem ew2 : w1.prog 3 [248] = (0, w2) := by kernel_rfl
theorem er2 : w2.read 3 2 = (0, [8, 240]) := by kernel_rfl
theorem works_vc : Spec Try.prog 7 [] [] (pms (.val (.bool true)) [] []) := by
  refine spec_entry tbOk Try.func7 rfl Try.ntmps7 Try.results7 ?_
  (repeat (first | refine gos (k := ?_) | refine fun (_ : _ = false) => ?_ | refine ⟨fun (_ : true = true) => ?_, fun h => absurd h (by decide)⟩ | refine gtr (k := ?_)))
  refine cmks (spec_new 2 16 (by decide) (by decide)) Try.call21 0 [0, 0, 0, 0, 0, 0, 0, 0, 0, 0, 0, 0, 0, 0, 0, 0, 0, 0, 0, 0, 0, 0, 0, 0, 7, 0, 0, 8] [0, 0, 0, 0, 0, 0, 0, 0, 0, 0, 0, 0, 0, 0, 0, 0, 0, 0, 0, 0, 0, 0, 0, 0, 1, 0, 0, 1] [27, 24] ?_
  (repeat (first | refine gos (k := ?_) | refine fun (_ : _ = false) => ?_ | refine ⟨fun (_ : true = true) => ?_, fun h => absurd h (by decide)⟩ | refine gtr (k := ?_)))
  refine cmks (prog_own (FS.new 2 16) (by decide) 3 (by unfold I64; decide) [15, 240] (by decide) (by unfold I64; decide) (by decide) 2 3 1) Try.call11 3 [8, 7, 18] [0, 0, 0] [] ?_
  rw [ew1]
  (repeat (first | refine gos (k := ?_) | refine fun (_ : _ = false) => ?_ | refine ⟨fun (_ : true = true) => ?_, fun h => absurd h (by decide)⟩ | refine gtr (k := ?_)))
  refine cmks (prog_own w1 (by decide) 3 (by unfold I64; decide) [248] (by decide) (by unfold I64; decide) (by decide) 2 3 1) Try.call11 3 [8, 7, 21] [0, 0, 0] [] ?_
  rw [ew2]
  (repeat (first | refine gos (k := ?_) | refine fun (_ : _ = false) => ?_ | refine ⟨fun (_ : true = true) => ?_, fun h => absurd h (by decide)⟩ | refine gtr (k := ?_)))
  refine cmks (spec_read w2 (by decide) 3 2 (by unfold I64; decide) (by unfold I64; decide) 2 3) Try.call10 2 [8, 7, 0, 0, 0, 0, 0, 0, 0, 0, 0, 0, 0, 0, 0, 0, 0, 0, 0, 0, 0, 0, 0, 0, 0, 0, 0, 0, 0, 0, 25] [0, 0, 0, 0, 0, 0, 0, 0, 0, 0, 0, 0, 0, 0, 0, 0, 0, 0, 0, 0, 0, 0, 0, 0, 0, 0, 0, 0, 0, 0, 1] [30] ?_
  rw [er2]
  (repeat (first | refine gos (k := ?_) | refine fun (_ : _ = false) => ?_ | refine ⟨fun (_ : true = true) => ?_, fun h => absurd h (by decide)⟩ | refine gtr (k := ?_)))
  refine cdet (spec_writes w2 2 3) Try.call9 [8, 7] ?_
  (repeat (first | refine gos (k := ?_) | refine fun (_ : _ = false) => ?_ | refine ⟨fun (_ : true = true) => ?_, fun h => absurd h (by decide)⟩ | refine gtr (k := ?_)))
  refine cdet (spec_sectors w2 (by decide) (by decide) 2 3) Try.call16 [8, 7] ?_
  (repeat (first | refine gos (k := ?_) | refine fun (_ : _ = false) => ?_ | refine ⟨fun (_ : true = true) => ?_, fun h => absurd h (by decide)⟩ | refine gtr (k := ?_)))
  refine cdet (spec_size w2 2 3) Try.call17 [8, 7] ?_
  (repeat (first | refine gos (k := ?_) | refine fun (_ : _ = false) => ?_ | refine ⟨fun (_ : true = true) => ?_, fun h => absurd h (by decide)⟩ | refine gtr (k := ?_)))
  exact ⟨_, rfl, rfl, trivial⟩
end Go.Proofs.Ytjfenbkhgamidaa
