/- Walks of lintellaw07: Same, twin. Conditions: none. -/
import Derived.Test.YtddocchgikaahaaDoorAw
import Derived.Test.YtddocchgikaahaaDoorAc
import Derived.Test.YtddocchgikaahaaDoorAf1
namespace Go.Proofs.YtddocchgikaahaaDoor
open Go.RowKit
set_option linter.unusedVariables false
set_option linter.unusedSimpArgs false
set_option maxRecDepth 100000
def sameI (z1 z2 : Nat) (a b : List UInt8) (i : Nat) : St := ⟨[.bs z1 a, .bs z2 b, .any, .any, .any, .val (.int .i64 i), .any, .any, .any, .any, .any, .any, .any, .any, .any, .any, .any, .any, .any, .any, .any, .any, .any, .any, .any, .any], [⟨0, .dead⟩, ⟨0, .dead⟩, ⟨0, .dead⟩, ⟨0, .dead⟩, ⟨0, .dead⟩, ⟨0, .dead⟩, ⟨0, .dead⟩, ⟨0, .dead⟩, ⟨0, .dead⟩, ⟨0, .dead⟩, ⟨0, .dead⟩, ⟨0, .dead⟩, ⟨0, .dead⟩, ⟨0, .dead⟩, ⟨0, .dead⟩, ⟨0, .dead⟩, ⟨0, .dead⟩, ⟨0, .dead⟩, ⟨0, .dead⟩, ⟨0, .dead⟩, ⟨0, .dead⟩, ⟨0, .dead⟩, ⟨0, .dead⟩, ⟨0, .dead⟩, ⟨0, .dead⟩, ⟨0, .dead⟩]⟩
theorem same_vc (z1 z2 : Nat) (a b : List UInt8) (hla : a.length ≤ 140737488355328) : Spec Tryd.prog 22 [.bs z1 a, .bs z2 b] [] (pms (.val (.bool (decide (a = b)))) [] []) := by
  refine spec_entry tbOk Tryd.func22 rfl Tryd.ntmps22 Tryd.results22 ?_
  repeat (refine gos (k := ?_))
  refine ⟨fun h => ?_, fun h => ?_⟩
  · repeat (refine gos (k := ?_))
    have : ¬ a = b := by rintro rfl; simp at h
    rw [decide_eq_false this]
    exact ⟨_, rfl, rfl, trivial⟩
  · have hl : a.length = b.length := by simp at h; omega
    repeat (refine gos (k := ?_))
    conv => whnf
    refine loop_of (σ := {i : Nat // i ≤ a.length ∧ a.take i = b.take i}) (fun y => sameI z1 z2 a b y.1) (fun y => a.length - y.1) ⟨0, by omega, by simp⟩ ?_ ?_ ?_
    · simp [sameI, leT, setD, setL, updH, evA, unA, getA, getL, constA, undefs, deads]
    · simp [sameI, leH, setD, setL, updH, evA, unA, getA, getL, constA, undefs, deads]
    · rintro ⟨i, hi, he⟩
      dsimp only [sameI]
      repeat (refine gos (k := ?_))
      refine ⟨fun h => ?_, fun h => ?_⟩
      · have hi' : i < a.length := by have := of_decide_eq_true h; omega
        repeat (refine gos (k := ?_))
        (refine sts (k := ?_))
        (refine sts (k := ?_))
        refine draw_of (p := 0) tbOk hm [0, 0, 3, 7, 0, 0, 48, 112, 255] [⟨0, false, false, []⟩, ⟨1, false, false, []⟩, ⟨2, true, false, [20, 21, 22, 23, 24, 25]⟩, ⟨3, true, false, [21, 22, 23, 24, 25]⟩, ⟨4, false, false, []⟩, ⟨5, false, false, []⟩, ⟨6, true, false, [17, 18, 19, 20, 24, 25]⟩, ⟨7, true, false, [17, 18, 19, 20, 25]⟩, ⟨8, false, false, []⟩] (by kernel_rfl) ?_
        repeat (refine gos (k := ?_))
        have ea : a[i]? = some (a.getD i 0) := by rw [List.getD_eq_getElem?_getD, List.getElem?_eq_getElem hi']; rfl
        have eb : b[i]? = some (b.getD i 0) := by rw [List.getD_eq_getElem?_getD, List.getElem?_eq_getElem (hl ▸ hi')]; rfl
        refine ⟨fun h => ?_, fun h => ?_⟩
        · have hne : ¬ a = b := by rintro rfl; simp at h
          repeat (refine gos (k := ?_))
          rw [decide_eq_false hne]
          exact ⟨_, rfl, rfl, trivial⟩
        · have heq : a.getD i 0 = b.getD i 0 := by
            simp only [Int.toNat_natCast, Bool.not_eq_false', decide_eq_true_eq] at h
            exact UInt8.toNat_inj.1 (by exact_mod_cast h)
          repeat (refine gos (k := ?_))
          (refine sts (k := ?_))
          refine ⟨⟨i + 1, hi', ?_⟩, leS_of ?_ ?_, ?_⟩
          · rw [List.take_add_one, List.take_add_one, he, ea, eb, heq]
          · simp [sameI, leT, setD, setL, updH, evA, unA, getA, getL, constA, undefs, deads]
          · simp [sameI, leH, setD, setL, updH, evA, unA, getA, getL, constA, undefs, deads]
          · show a.length - (i + 1) < a.length - i
            omega
      · have : i = a.length := by have := of_decide_eq_false h; omega
        have hab : a = b := by rw [this, List.take_length, hl, List.take_length] at he; exact he
        repeat (refine gos (k := ?_))
        rw [decide_eq_true hab]
        exact ⟨_, rfl, rfl, trivial⟩
end Go.Proofs.YtddocchgikaahaaDoor
