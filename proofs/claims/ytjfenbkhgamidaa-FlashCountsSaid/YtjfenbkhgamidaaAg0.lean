/- The calls of no flash. Conditions: none. -/
import Derived.Test.YtjfenbkhgamidaaAw
import Derived.Test.YtjfenbkhgamidaaAc
import Derived.Test.YtjfenbkhgamidaaTb
namespace Go.Proofs.Ytjfenbkhgamidaa
open Go.RowKit
set_option linter.unusedVariables false
set_option linter.unusedSimpArgs false
set_option maxRecDepth 100000
theorem nil_begin : Spec Try.prog 23 [.val (.pointer none)] [] (pms (.val (.int .i64 2)) [] []) := by
  refine spec_entry tbOk Try.func23 rfl Try.ntmps23 Try.results23 ?_
  (repeat (first | refine gos (k := ?_) | refine fun (_ : _ = false) => ?_ | refine ⟨fun (_ : true = true) => ?_, fun h => absurd h (by decide)⟩ | refine gtr (k := ?_)))
  exact ⟨_, rfl, rfl, trivial⟩
theorem nil_sectors : Spec Try.prog 16 [.val (.pointer none)] [] (pms (.val (.int .i64 0)) [] []) := by
  refine spec_entry tbOk Try.func16 rfl Try.ntmps16 Try.results16 ?_
  (repeat (first | refine gos (k := ?_) | refine fun (_ : _ = false) => ?_ | refine ⟨fun (_ : true = true) => ?_, fun h => absurd h (by decide)⟩ | refine gtr (k := ?_)))
  exact ⟨_, rfl, rfl, trivial⟩
theorem nil_size : Spec Try.prog 17 [.val (.pointer none)] [] (pms (.val (.int .i64 0)) [] []) := by
  refine spec_entry tbOk Try.func17 rfl Try.ntmps17 Try.results17 ?_
  (repeat (first | refine gos (k := ?_) | refine fun (_ : _ = false) => ?_ | refine ⟨fun (_ : true = true) => ?_, fun h => absurd h (by decide)⟩ | refine gtr (k := ?_)))
  exact ⟨_, rfl, rfl, trivial⟩
theorem nil_writes : Spec Try.prog 9 [.val (.pointer none)] [] (pms (.val (.int .i64 0)) [] []) := by
  refine spec_entry tbOk Try.func9 rfl Try.ntmps9 Try.results9 ?_
  (repeat (first | refine gos (k := ?_) | refine fun (_ : _ = false) => ?_ | refine ⟨fun (_ : true = true) => ?_, fun h => absurd h (by decide)⟩ | refine gtr (k := ?_)))
  exact ⟨_, rfl, rfl, trivial⟩
theorem nil_image : Spec Try.prog 18 [.val (.pointer none)] [] (pms (.val (.slice none 0 0)) [] []) := by
  refine spec_entry tbOk Try.func18 rfl Try.ntmps18 Try.results18 ?_
  (repeat (first | refine gos (k := ?_) | refine fun (_ : _ = false) => ?_ | refine ⟨fun (_ : true = true) => ?_, fun h => absurd h (by decide)⟩ | refine gtr (k := ?_)))
  exact ⟨_, rfl, rfl, trivial⟩
theorem nil_dead : Spec Try.prog 19 [.val (.pointer none)] [] (pms (.val (.bool false)) [] []) := by
  refine spec_entry tbOk Try.func19 rfl Try.ntmps19 Try.results19 ?_
  (repeat (first | refine gos (k := ?_) | refine fun (_ : _ = false) => ?_ | refine ⟨fun (_ : true = true) => ?_, fun h => absurd h (by decide)⟩ | refine gtr (k := ?_)))
  exact ⟨_, rfl, rfl, trivial⟩
theorem nil_on : Spec Try.prog 22 [.val (.pointer none)] [] (pms (.val (.int .i64 2)) [] []) := by
  refine spec_entry tbOk Try.func22 rfl Try.ntmps22 Try.results22 ?_
  (repeat (first | refine gos (k := ?_) | refine fun (_ : _ = false) => ?_ | refine ⟨fun (_ : true = true) => ?_, fun h => absurd h (by decide)⟩ | refine gtr (k := ?_)))
  exact ⟨_, rfl, rfl, trivial⟩
theorem nil_read (i n : Int) : Spec Try.prog 10 [.val (.pointer none), .val (.int .i64 i), .val (.int .i64 n)] [] (pms (.tup [.val (.slice none 0 0), .val (.int .i64 2)]) [] []) := by
  refine spec_entry tbOk Try.func10 rfl Try.ntmps10 Try.results10 ?_
  (repeat (first | refine gos (k := ?_) | refine fun (_ : _ = false) => ?_ | refine ⟨fun (_ : true = true) => ?_, fun h => absurd h (by decide)⟩ | refine gtr (k := ?_)))
  refine cmks (nil_begin) Try.call23 0 [] [] [] ?_
  (repeat (first | refine gos (k := ?_) | refine fun (_ : _ = false) => ?_ | refine ⟨fun (_ : true = true) => ?_, fun h => absurd h (by decide)⟩ | refine gtr (k := ?_)))
  exact ⟨_, rfl, rfl, trivial⟩
theorem nil_arm (i n : Int) : Spec Try.prog 14 [.val (.pointer none), .val (.int .i64 i), .val (.int .i64 n)] [] (pms (.val (.int .i64 2)) [] []) := by
  refine spec_entry tbOk Try.func14 rfl Try.ntmps14 Try.results14 ?_
  (repeat (first | refine gos (k := ?_) | refine fun (_ : _ = false) => ?_ | refine ⟨fun (_ : true = true) => ?_, fun h => absurd h (by decide)⟩ | refine gtr (k := ?_)))
  refine cmks (nil_begin) Try.call23 0 [] [] [] ?_
  (repeat (first | refine gos (k := ?_) | refine fun (_ : _ = false) => ?_ | refine ⟨fun (_ : true = true) => ?_, fun h => absurd h (by decide)⟩ | refine gtr (k := ?_)))
  exact ⟨_, rfl, rfl, trivial⟩
theorem nil_erase (i : Int) : Spec Try.prog 13 [.val (.pointer none), .val (.int .i64 i)] [] (pms (.val (.int .i64 2)) [] []) := by
  refine spec_entry tbOk Try.func13 rfl Try.ntmps13 Try.results13 ?_
  (repeat (first | refine gos (k := ?_) | refine fun (_ : _ = false) => ?_ | refine ⟨fun (_ : true = true) => ?_, fun h => absurd h (by decide)⟩ | refine gtr (k := ?_)))
  refine cmks (nil_begin) Try.call23 0 [] [] [] ?_
  (repeat (first | refine gos (k := ?_) | refine fun (_ : _ = false) => ?_ | refine ⟨fun (_ : true = true) => ?_, fun h => absurd h (by decide)⟩ | refine gtr (k := ?_)))
  exact ⟨_, rfl, rfl, trivial⟩
theorem nil_prog (i : Int) (z : Nat) (m : List UInt8) : Spec Try.prog 11 [.val (.pointer none), .val (.int .i64 i), .bs z m] [] (pms (.val (.int .i64 2)) [] []) := by
  refine spec_entry tbOk Try.func11 rfl Try.ntmps11 Try.results11 ?_
  (repeat (first | refine gos (k := ?_) | refine fun (_ : _ = false) => ?_ | refine ⟨fun (_ : true = true) => ?_, fun h => absurd h (by decide)⟩ | refine gtr (k := ?_)))
  refine cmks (nil_begin) Try.call23 0 [] [] [] ?_
  (repeat (first | refine gos (k := ?_) | refine fun (_ : _ = false) => ?_ | refine ⟨fun (_ : true = true) => ?_, fun h => absurd h (by decide)⟩ | refine gtr (k := ?_)))
  exact ⟨_, rfl, rfl, trivial⟩
end Go.Proofs.Ytjfenbkhgamidaa
