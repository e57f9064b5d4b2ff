/- The walk of FlashNil. Conditions: none. -/
import Derived.Test.YtjfenbkhgamidaaAw
import Derived.Test.YtjfenbkhgamidaaAg3
import Derived.Test.YtjfenbkhgamidaaAg4
namespace Go.Proofs.Ytjfenbkhgamidaa
open Go.RowKit
set_option linter.unusedVariables false
set_option linter.unusedSimpArgs false
set_option maxRecDepth 100000
theorem nil_vc (kind a n : Int) (b : List UInt8) (hkd : I64 kind) (ha : I64 a) (hn : I64 n) (z : Nat) : Spec Try.prog 4 [.agg [.val (.int .i64 kind), .val (.int .i64 a), .val (.int .i64 n), .bs z b]] [] (pms (.val (.bool true)) [] []) := by
  refine spec_entry tbOk Try.func4 rfl Try.ntmps4 Try.results4 ?_
  (repeat (first | refine gos (k := ?_) | refine fun (_ : _ = false) => ?_ | refine ⟨fun (_ : true = true) => ?_, fun h => absurd h (by decide)⟩ | refine gtr (k := ?_)))
  refine And.intro (fun h => ?_) (fun h => ?_)
  · (repeat (first | refine gos (k := ?_) | refine fun (_ : _ = false) => ?_ | refine ⟨fun (_ : true = true) => ?_, fun h => absurd h (by decide)⟩ | refine gtr (k := ?_)))
    refine cmks (works_vc) Try.call7 0 [] [] [] ?_
    (repeat (first | refine gos (k := ?_) | refine fun (_ : _ = false) => ?_ | refine ⟨fun (_ : true = true) => ?_, fun h => absurd h (by decide)⟩ | refine gtr (k := ?_)))
    exact ⟨_, rfl, rfl, trivial⟩
  · have hb : b.length ≤ 140737488355328 := by have := of_decide_eq_false h; omega
    (repeat (first | refine gos (k := ?_) | refine fun (_ : _ = false) => ?_ | refine ⟨fun (_ : true = true) => ?_, fun h => absurd h (by decide)⟩ | refine gtr (k := ?_)))
    refine cmks (does_nil kind a n b hkd ha hn hb z) Try.call15 0 [0, 0, 0, 0, 0, 0, 0, 0, 0, 0, 0, 0, 0, 0, 0, 0, 0, 0, 0, 0, 0, 0, 0, 0, 0, 0, 0, 16] [0, 0, 0, 0, 0, 0, 0, 0, 0, 0, 0, 0, 0, 0, 0, 0, 0, 0, 0, 0, 0, 0, 0, 0, 0, 0, 0, 1] [27] ?_
    (repeat (first | refine gos (k := ?_) | refine fun (_ : _ = false) => ?_ | refine ⟨fun (_ : true = true) => ?_, fun h => absurd h (by decide)⟩ | refine gtr (k := ?_)))
    (refine sts (k := ?_))
    refine gcl (k := ?_)
    refine cmks (nil_sectors) Try.call16 0 [] [] [] ?_
    (repeat (first | refine gos (k := ?_) | refine fun (_ : _ = false) => ?_ | refine ⟨fun (_ : true = true) => ?_, fun h => absurd h (by decide)⟩ | refine gtr (k := ?_)))
    (refine sts (k := ?_))
    refine gcl (k := ?_)
    refine cmks (nil_size) Try.call17 0 [] [] [] ?_
    (repeat (first | refine gos (k := ?_) | refine fun (_ : _ = false) => ?_ | refine ⟨fun (_ : true = true) => ?_, fun h => absurd h (by decide)⟩ | refine gtr (k := ?_)))
    (refine sts (k := ?_))
    refine gcl (k := ?_)
    refine cmks (nil_writes) Try.call9 0 [] [] [] ?_
    (repeat (first | refine gos (k := ?_) | refine fun (_ : _ = false) => ?_ | refine ⟨fun (_ : true = true) => ?_, fun h => absurd h (by decide)⟩ | refine gtr (k := ?_)))
    (refine sts (k := ?_))
    refine gcl (k := ?_)
    refine cmks (nil_image) Try.call18 0 [] [] [] ?_
    (repeat (first | refine gos (k := ?_) | refine fun (_ : _ = false) => ?_ | refine ⟨fun (_ : true = true) => ?_, fun h => absurd h (by decide)⟩ | refine gtr (k := ?_)))
    (refine sts (k := ?_))
    refine gcl (k := ?_)
    refine cmks (nil_dead) Try.call19 0 [] [] [] ?_
    (repeat (first | refine gos (k := ?_) | refine fun (_ : _ = false) => ?_ | refine ⟨fun (_ : true = true) => ?_, fun h => absurd h (by decide)⟩ | refine gtr (k := ?_)))
    (refine sts (k := ?_))
    refine gcl (k := ?_)
    refine cmks (works_vc) Try.call7 0 [] [] [] ?_
    (repeat (first | refine gos (k := ?_) | refine fun (_ : _ = false) => ?_ | refine ⟨fun (_ : true = true) => ?_, fun h => absurd h (by decide)⟩ | refine gtr (k := ?_)))
    refine ⟨_, congrArg AV.val (congrArg Value.bool ?_), rfl, trivial⟩
    simp
    omega
end Go.Proofs.Ytjfenbkhgamidaa
