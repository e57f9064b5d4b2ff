/- The calls of no flash. Conditions: none. -/
import Derived.Test.YtddocchgikaahaaDoorAw
import Derived.Test.YtddocchgikaahaaDoorAc
import Derived.Test.YtddocchgikaahaaDoorTb
namespace Go.Proofs.YtddocchgikaahaaDoor
open Go.RowKit
set_option linter.unusedVariables false
set_option linter.unusedSimpArgs false
set_option maxRecDepth 100000
theorem nil_begin : Spec Tryd.prog 45 [.val (.pointer none)] [] (pms (.val (.int .i64 2)) [] []) := by
  refine spec_entry tbOk Tryd.func45 rfl Tryd.ntmps45 Tryd.results45 ?_
  (repeat (first | refine gos (k := ?_) | refine fun (_ : _ = false) => ?_ | refine ⟨fun (_ : true = true) => ?_, fun h => absurd h (by decide)⟩ | refine gtr (k := ?_)))
  exact ⟨_, rfl, rfl, trivial⟩
theorem nil_sectors : Spec Tryd.prog 32 [.val (.pointer none)] [] (pms (.val (.int .i64 0)) [] []) := by
  refine spec_entry tbOk Tryd.func32 rfl Tryd.ntmps32 Tryd.results32 ?_
  (repeat (first | refine gos (k := ?_) | refine fun (_ : _ = false) => ?_ | refine ⟨fun (_ : true = true) => ?_, fun h => absurd h (by decide)⟩ | refine gtr (k := ?_)))
  exact ⟨_, rfl, rfl, trivial⟩
theorem nil_size : Spec Tryd.prog 33 [.val (.pointer none)] [] (pms (.val (.int .i64 0)) [] []) := by
  refine spec_entry tbOk Tryd.func33 rfl Tryd.ntmps33 Tryd.results33 ?_
  (repeat (first | refine gos (k := ?_) | refine fun (_ : _ = false) => ?_ | refine ⟨fun (_ : true = true) => ?_, fun h => absurd h (by decide)⟩ | refine gtr (k := ?_)))
  exact ⟨_, rfl, rfl, trivial⟩
theorem nil_image : Spec Tryd.prog 21 [.val (.pointer none)] [] (pms (.val (.slice none 0 0)) [] []) := by
  refine spec_entry tbOk Tryd.func21 rfl Tryd.ntmps21 Tryd.results21 ?_
  (repeat (first | refine gos (k := ?_) | refine fun (_ : _ = false) => ?_ | refine ⟨fun (_ : true = true) => ?_, fun h => absurd h (by decide)⟩ | refine gtr (k := ?_)))
  exact ⟨_, rfl, rfl, trivial⟩
theorem nil_dead : Spec Tryd.prog 29 [.val (.pointer none)] [] (pms (.val (.bool false)) [] []) := by
  refine spec_entry tbOk Tryd.func29 rfl Tryd.ntmps29 Tryd.results29 ?_
  (repeat (first | refine gos (k := ?_) | refine fun (_ : _ = false) => ?_ | refine ⟨fun (_ : true = true) => ?_, fun h => absurd h (by decide)⟩ | refine gtr (k := ?_)))
  exact ⟨_, rfl, rfl, trivial⟩
theorem nil_on : Spec Tryd.prog 25 [.val (.pointer none)] [] (pms (.val (.int .i64 2)) [] []) := by
  refine spec_entry tbOk Tryd.func25 rfl Tryd.ntmps25 Tryd.results25 ?_
  (repeat (first | refine gos (k := ?_) | refine fun (_ : _ = false) => ?_ | refine ⟨fun (_ : true = true) => ?_, fun h => absurd h (by decide)⟩ | refine gtr (k := ?_)))
  exact ⟨_, rfl, rfl, trivial⟩
theorem nil_read (i n : Int) : Spec Tryd.prog 57 [.val (.pointer none), .val (.int .i64 i), .val (.int .i64 n)] [] (pms (.tup [.val (.slice none 0 0), .val (.int .i64 2)]) [] []) := by
  refine spec_entry tbOk Tryd.func57 rfl Tryd.ntmps57 Tryd.results57 ?_
  (repeat (first | refine gos (k := ?_) | refine fun (_ : _ = false) => ?_ | refine ⟨fun (_ : true = true) => ?_, fun h => absurd h (by decide)⟩ | refine gtr (k := ?_)))
  refine cmks (nil_begin) Tryd.call45 0 [] [] [] ?_
  (repeat (first | refine gos (k := ?_) | refine fun (_ : _ = false) => ?_ | refine ⟨fun (_ : true = true) => ?_, fun h => absurd h (by decide)⟩ | refine gtr (k := ?_)))
  exact ⟨_, rfl, rfl, trivial⟩
theorem nil_arm (i n : Int) : Spec Tryd.prog 24 [.val (.pointer none), .val (.int .i64 i), .val (.int .i64 n)] [] (pms (.val (.int .i64 2)) [] []) := by
  refine spec_entry tbOk Tryd.func24 rfl Tryd.ntmps24 Tryd.results24 ?_
  (repeat (first | refine gos (k := ?_) | refine fun (_ : _ = false) => ?_ | refine ⟨fun (_ : true = true) => ?_, fun h => absurd h (by decide)⟩ | refine gtr (k := ?_)))
  refine cmks (nil_begin) Tryd.call45 0 [] [] [] ?_
  (repeat (first | refine gos (k := ?_) | refine fun (_ : _ = false) => ?_ | refine ⟨fun (_ : true = true) => ?_, fun h => absurd h (by decide)⟩ | refine gtr (k := ?_)))
  exact ⟨_, rfl, rfl, trivial⟩
theorem nil_erase (i : Int) : Spec Tryd.prog 34 [.val (.pointer none), .val (.int .i64 i)] [] (pms (.val (.int .i64 2)) [] []) := by
  refine spec_entry tbOk Tryd.func34 rfl Tryd.ntmps34 Tryd.results34 ?_
  (repeat (first | refine gos (k := ?_) | refine fun (_ : _ = false) => ?_ | refine ⟨fun (_ : true = true) => ?_, fun h => absurd h (by decide)⟩ | refine gtr (k := ?_)))
  refine cmks (nil_begin) Tryd.call45 0 [] [] [] ?_
  (repeat (first | refine gos (k := ?_) | refine fun (_ : _ = false) => ?_ | refine ⟨fun (_ : true = true) => ?_, fun h => absurd h (by decide)⟩ | refine gtr (k := ?_)))
  exact ⟨_, rfl, rfl, trivial⟩
theorem nil_prog (i : Int) (z : Nat) (m : List UInt8) : Spec Tryd.prog 46 [.val (.pointer none), .val (.int .i64 i), .bs z m] [] (pms (.val (.int .i64 2)) [] []) := by
  refine spec_entry tbOk Tryd.func46 rfl Tryd.ntmps46 Tryd.results46 ?_
  (repeat (first | refine gos (k := ?_) | refine fun (_ : _ = false) => ?_ | refine ⟨fun (_ : true = true) => ?_, fun h => absurd h (by decide)⟩ | refine gtr (k := ?_)))
  refine cmks (nil_begin) Tryd.call45 0 [] [] [] ?_
  (repeat (first | refine gos (k := ?_) | refine fun (_ : _ = false) => ?_ | refine ⟨fun (_ : true = true) => ?_, fun h => absurd h (by decide)⟩ | refine gtr (k := ?_)))
  exact ⟨_, rfl, rfl, trivial⟩
end Go.Proofs.YtddocchgikaahaaDoor
