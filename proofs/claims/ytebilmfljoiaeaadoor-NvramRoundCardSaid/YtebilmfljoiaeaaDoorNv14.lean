/- Walks of nvram and lintellaw09: no store; the law NvramNil, once works is walked. Conditions: none. -/
import Derived.Test.YtebilmfljoiaeaaDoorNv13
namespace Go.Proofs.YtebilmfljoiaeaaDoor
open Go.RowKit
set_option linter.unusedVariables false
set_option linter.unusedSimpArgs false
set_option maxRecDepth 100000
set_option maxHeartbeats 1500000
theorem open_nil : Spec Tryd.prog 6 [.val (.pointer none)] [] (pms (.tup [.val (.pointer none), .val (.int .i64 2)]) [] []) := by
  refine spec_entry tbOk Tryd.func6 rfl Tryd.ntmps6 Tryd.results6 ?_
  (repeat (first | refine gos (k := ?_) | refine fun (_ : _ = false) => ?_ | refine ⟨fun (_ : true = true) => ?_, fun h => absurd h (by decide)⟩ | refine gtr (k := ?_)))
  refine cmks (nil_sectors) Tryd.call16 0 [] [] [] ?_
  (repeat (first | refine gos (k := ?_) | refine fun (_ : _ = false) => ?_ | refine ⟨fun (_ : true = true) => ?_, fun h => absurd h (by decide)⟩ | refine gtr (k := ?_)))
  exact ⟨_, rfl, rfl, trivial⟩
theorem set_nilB (z z' : Nat) (key val : List UInt8) : Spec Tryd.prog 7 [.val (.pointer none), .bs z key, .bs z' val] [] (pms (.val (.int .i64 2)) [] []) := by
  refine spec_entry tbOk Tryd.func7 rfl Tryd.ntmps7 Tryd.results7 ?_
  (repeat (first | refine gos (k := ?_) | refine fun (_ : _ = false) => ?_ | refine ⟨fun (_ : true = true) => ?_, fun h => absurd h (by decide)⟩ | refine gtr (k := ?_)))
  exact ⟨_, rfl, rfl, trivial⟩
theorem get_nilB (z : Nat) (key : List UInt8) : Spec Tryd.prog 8 [.val (.pointer none), .bs z key] [] (pms (.tup [.val (.slice none 0 0), .val (.bool false), .val (.int .i64 2)]) [] []) := by
  refine spec_entry tbOk Tryd.func8 rfl Tryd.ntmps8 Tryd.results8 ?_
  (repeat (first | refine gos (k := ?_) | refine fun (_ : _ = false) => ?_ | refine ⟨fun (_ : true = true) => ?_, fun h => absurd h (by decide)⟩ | refine gtr (k := ?_)))
  refine cmks (now_nil) Tryd.call23 0 [] [] [] ?_
  (repeat (first | refine gos (k := ?_) | refine fun (_ : _ = false) => ?_ | refine ⟨fun (_ : true = true) => ?_, fun h => absurd h (by decide)⟩ | refine gtr (k := ?_)))
  exact ⟨_, rfl, rfl, trivial⟩
theorem del_nilB (z : Nat) (key : List UInt8) : Spec Tryd.prog 11 [.val (.pointer none), .bs z key] [] (pms (.val (.int .i64 2)) [] []) := by
  refine spec_entry tbOk Tryd.func11 rfl Tryd.ntmps11 Tryd.results11 ?_
  (repeat (first | refine gos (k := ?_) | refine fun (_ : _ = false) => ?_ | refine ⟨fun (_ : true = true) => ?_, fun h => absurd h (by decide)⟩ | refine gtr (k := ?_)))
  refine cmks (now_nil) Tryd.call23 0 [] [] [] ?_
  (repeat (first | refine gos (k := ?_) | refine fun (_ : _ = false) => ?_ | refine ⟨fun (_ : true = true) => ?_, fun h => absurd h (by decide)⟩ | refine gtr (k := ?_)))
  exact ⟨_, rfl, rfl, trivial⟩
theorem keys_nil : Spec Tryd.prog 12 [.val (.pointer none)] [] (pms (.tup [.val (.slice none 0 0), .val (.int .i64 2)]) [] []) := by
  refine spec_entry tbOk Tryd.func12 rfl Tryd.ntmps12 Tryd.results12 ?_
  (repeat (first | refine gos (k := ?_) | refine fun (_ : _ = false) => ?_ | refine ⟨fun (_ : true = true) => ?_, fun h => absurd h (by decide)⟩ | refine gtr (k := ?_)))
  refine cmks (now_nil) Tryd.call23 0 [] [] [] ?_
  (repeat (first | refine gos (k := ?_) | refine fun (_ : _ = false) => ?_ | refine ⟨fun (_ : true = true) => ?_, fun h => absurd h (by decide)⟩ | refine gtr (k := ?_)))
  exact ⟨_, rfl, rfl, trivial⟩
theorem usedS_nil : Spec Tryd.prog 25 [.agg [.val (.pointer none), .val (.slice none 0 0), .val (.slice none 0 0), .val (.int .i64 0), .val (.bool false)]] [] (pms (.val (.int .i64 0)) [] []) := by
  refine spec_entry tbOk Tryd.func25 rfl Tryd.ntmps25 Tryd.results25 ?_
  (repeat (first | refine gos (k := ?_) | refine fun (_ : _ = false) => ?_ | refine ⟨fun (_ : true = true) => ?_, fun h => absurd h (by decide)⟩ | refine gtr (k := ?_)))
  (refine sts (k := ?_))
  conv => whnf
  refine loop_at (fun j : Nat => j = 0) (fun j => j) 0 [3, 5, 9, 10, 11, 12, 13, 14, 15, 16, 17, 18, 19, 20, 21, 22] (fun j => [(3, .val (.int .i64 0)), (9, .val (.int .i64 0))]) (fun j => []) 0 rfl ?_ ?_ ?_
  · ((try dsimp only [lpS, anyT, putT, setL]); (repeat (refine And.intro (by first | exact trivial | exact rfl) ?_)); (first | exact trivial | skip))
  · ((try dsimp only [lpS, deadH, putH, setL, Nat.reduceAdd, Nat.zero_add]); (repeat (refine And.intro (by first | exact rfl | exact trivial) ?_)); (first | exact trivial | skip))
  · rintro j v rfl
    (dsimp only [lpS, anyT, putT, setL, deadH, putH, Nat.reduceAdd, Nat.zero_add])
    (repeat (first | refine gos (k := ?_) | refine fun (_ : _ = false) => ?_ | refine ⟨fun (_ : true = true) => ?_, fun h => absurd h (by decide)⟩ | refine gtr (k := ?_)))
    exact ⟨_, rfl, rfl, trivial⟩
theorem used_nil : Spec Tryd.prog 13 [.val (.pointer none)] [] (pms (.tup [.val (.int .i64 0), .val (.int .i64 2)]) [] []) := by
  refine spec_entry tbOk Tryd.func13 rfl Tryd.ntmps13 Tryd.results13 ?_
  (repeat (first | refine gos (k := ?_) | refine fun (_ : _ = false) => ?_ | refine ⟨fun (_ : true = true) => ?_, fun h => absurd h (by decide)⟩ | refine gtr (k := ?_)))
  refine cmks (now_nil) Tryd.call23 0 [] [] [] ?_
  (repeat (first | refine gos (k := ?_) | refine fun (_ : _ = false) => ?_ | refine ⟨fun (_ : true = true) => ?_, fun h => absurd h (by decide)⟩ | refine gtr (k := ?_)))
  refine cmks (usedS_nil) Tryd.call25 0 [] [] [] ?_
  (repeat (first | refine gos (k := ?_) | refine fun (_ : _ = false) => ?_ | refine ⟨fun (_ : true = true) => ?_, fun h => absurd h (by decide)⟩ | refine gtr (k := ?_)))
  exact ⟨_, rfl, rfl, trivial⟩
theorem law_nvnil (hw : Spec Tryd.prog 10 [] [] (pms (.val (.bool true)) [] [])) (z z' : Nat) (key val : List UInt8) : Spec Tryd.prog 4 [.bs z key, .bs z' val] [] (pms (.val (.bool true)) [] []) := by
  refine spec_entry tbOk Tryd.func4 rfl Tryd.ntmps4 Tryd.results4 ?_
  (repeat (first | refine gos (k := ?_) | refine fun (_ : _ = false) => ?_ | refine ⟨fun (_ : true = true) => ?_, fun h => absurd h (by decide)⟩ | refine gtr (k := ?_)))
  refine ⟨fun h => ?_, fun h => ?_⟩
  · (repeat (first | refine gos (k := ?_) | refine fun (_ : _ = false) => ?_ | refine ⟨fun (_ : true = true) => ?_, fun h => absurd h (by decide)⟩ | refine gtr (k := ?_)))
    refine cmks (hw) Tryd.call10 0 [] [] [] ?_
    (repeat (first | refine gos (k := ?_) | refine fun (_ : _ = false) => ?_ | refine ⟨fun (_ : true = true) => ?_, fun h => absurd h (by decide)⟩ | refine gtr (k := ?_)))
    exact ⟨_, rfl, rfl, trivial⟩
  (repeat (first | refine gos (k := ?_) | refine fun (_ : _ = false) => ?_ | refine ⟨fun (_ : true = true) => ?_, fun h => absurd h (by decide)⟩ | refine gtr (k := ?_)))
  refine cmks (open_nil) Tryd.call6 0 [] [] [] ?_
  (repeat (first | refine gos (k := ?_) | refine fun (_ : _ = false) => ?_ | refine ⟨fun (_ : true = true) => ?_, fun h => absurd h (by decide)⟩ | refine gtr (k := ?_)))
  refine cmks (get_nilB z key) Tryd.call8 0 [] [] [] ?_
  (repeat (first | refine gos (k := ?_) | refine fun (_ : _ = false) => ?_ | refine ⟨fun (_ : true = true) => ?_, fun h => absurd h (by decide)⟩ | refine gtr (k := ?_)))
  refine cmks (set_nilB z z' key val) Tryd.call7 0 [] [] [] ?_
  (repeat (first | refine gos (k := ?_) | refine fun (_ : _ = false) => ?_ | refine ⟨fun (_ : true = true) => ?_, fun h => absurd h (by decide)⟩ | refine gtr (k := ?_)))
  refine cmks (del_nilB z key) Tryd.call11 0 [] [] [] ?_
  (repeat (first | refine gos (k := ?_) | refine fun (_ : _ = false) => ?_ | refine ⟨fun (_ : true = true) => ?_, fun h => absurd h (by decide)⟩ | refine gtr (k := ?_)))
  refine cmks (keys_nil) Tryd.call12 0 [] [] [] ?_
  (repeat (first | refine gos (k := ?_) | refine fun (_ : _ = false) => ?_ | refine ⟨fun (_ : true = true) => ?_, fun h => absurd h (by decide)⟩ | refine gtr (k := ?_)))
  refine cmks (used_nil) Tryd.call13 0 [] [] [] ?_
  (repeat (first | refine gos (k := ?_) | refine fun (_ : _ = false) => ?_ | refine ⟨fun (_ : true = true) => ?_, fun h => absurd h (by decide)⟩ | refine gtr (k := ?_)))
  refine cmks (sroom_nil) Tryd.call14 0 [] [] [] ?_
  (repeat (first | refine gos (k := ?_) | refine fun (_ : _ = false) => ?_ | refine ⟨fun (_ : true = true) => ?_, fun h => absurd h (by decide)⟩ | refine gtr (k := ?_)))
  refine cmks (hw) Tryd.call10 0 [] [] [] ?_
  (repeat (first | refine gos (k := ?_) | refine fun (_ : _ = false) => ?_ | refine ⟨fun (_ : true = true) => ?_, fun h => absurd h (by decide)⟩ | refine gtr (k := ?_)))
  exact ⟨_, rfl, rfl, trivial⟩
end Go.Proofs.YtebilmfljoiaeaaDoor
