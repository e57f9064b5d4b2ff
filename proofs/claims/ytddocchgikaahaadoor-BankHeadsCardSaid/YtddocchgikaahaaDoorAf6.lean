/- Walks of flash: Erase$1. Conditions: none. -/
import Derived.Test.YtddocchgikaahaaDoorAw
import Derived.Test.YtddocchgikaahaaDoorAf1
namespace Go.Proofs.YtddocchgikaahaaDoor
open Go.RowKit
set_option linter.unusedVariables false
set_option linter.unusedSimpArgs false
set_option maxRecDepth 100000
/-- these bytes made 255 -/
def fillN (c : List UInt8) (o : Nat) : Nat → List UInt8
  | 0 => c
  | k + 1 => (fillN c o k).set (o + k) 255
theorem fillN_length (c : List UInt8) (o : Nat) : ∀ k, (fillN c o k).length = c.length
  | 0 => rfl
  | k + 1 => by simp [fillN, fillN_length c o k]
def er1I (k v0 v1 o n : Nat) (l : List UInt8) (i : Nat) : St := ⟨[.val (.int .i64 k), .ref 0 v0 1 0 0, .any, .any, .val (.int .i64 k), .val (.int .i64 i), .any, .any, .any, .any, .any, .any], [⟨v0, .obj [.own 1 v1 1 o n]⟩, ⟨v1, .bytes (fillN l o i)⟩, ⟨0, .dead⟩, ⟨0, .dead⟩, ⟨0, .dead⟩, ⟨0, .dead⟩, ⟨0, .dead⟩, ⟨0, .dead⟩, ⟨0, .dead⟩, ⟨0, .dead⟩, ⟨0, .dead⟩, ⟨0, .dead⟩, ⟨0, .dead⟩, ⟨0, .dead⟩]⟩
theorem er1_vc (k : Nat) (l : List UInt8) (hl : l.length ≤ 140737488355328) (v0 v1 o n : Nat) (hk : k ≤ n) (hn : o + n ≤ l.length) : Spec Tryd.prog 49 [.val (.int .i64 k), .ref 0 v0 1 0 0] [⟨v0, .obj [.own 1 v1 1 o n]⟩, ⟨v1, .bytes l⟩]
   (pst (.tup []) [⟨v0, .obj [.own 1 v1 1 o n]⟩, ⟨v1, .bytes (fillN l o k)⟩]) := by
  refine spec_entry tbOk Tryd.func49 rfl Tryd.ntmps49 Tryd.results49 ?_
  repeat (refine gos (k := ?_))
  (refine sts (k := ?_))
  (refine sts (k := ?_))
  refine loop_of (σ := {i : Nat // i ≤ k}) (fun y => er1I k v0 v1 o n l y.1) (fun y => k - y.1) ⟨0, by omega⟩ ?_ ?_ ?_
  · simp [er1I, leT, setD, setL, updH, evA, unA, getA, getL, constA, undefs, deads]
  · simp [er1I, leH, fillN, setD, setL, updH, evA, unA, getA, getL, constA, undefs, deads]
  · rintro ⟨i, hi⟩
    have hfl := fillN_length l o i
    dsimp only [er1I]
    repeat (refine gos (k := ?_))
    refine ⟨fun h => ?_, fun h => ?_⟩
    · have hi' : i < k := by have := of_decide_eq_true h; omega
      repeat (refine gos (k := ?_))
      (refine sts (k := ?_))
      refine ⟨⟨i + 1, hi'⟩, leS_of ?_ ?_, ?_⟩
      · simp [er1I, leT, setD, setL, updH, evA, unA, getA, getL, constA, undefs, deads]
      ·      simp [er1I, leH, fillN, setD, setL, updH, evA, unA, getA, getL, constA, undefs, deads]
      · show k - (i + 1) < k - i
        omega
    · have he : i = k := by have := of_decide_eq_false h; omega
      subst he
      repeat (refine gos (k := ?_))
      exact ⟨_, rfl, rfl⟩
end Go.Proofs.YtddocchgikaahaaDoor
