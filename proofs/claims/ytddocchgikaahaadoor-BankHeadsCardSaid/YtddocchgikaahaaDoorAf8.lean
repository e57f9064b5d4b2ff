/- Walks of flash: write with Erase$2. Conditions: none. -/
import Derived.Test.YtddocchgikaahaaDoorAw
import Derived.Test.YtddocchgikaahaaDoorAf7
namespace Go.Proofs.YtddocchgikaahaaDoor
open Go.RowKit
set_option linter.unusedVariables false
set_option linter.unusedSimpArgs false
set_option maxRecDepth 100000
theorem write2 (k : Nat) (l : List UInt8) (hl : l.length ≤ 140737488355328) (w0 w1 w2 v0 v1 o n : Nat) (hk : k ≤ n) (hn : o + n ≤ l.length) (a2 a3 a5 : Int) (a4 : Bool) (hA2 : I64 a2) (hA5 : 0 ≤ a5 ∧ a5 < 9223372036854775807) (d : Bool) (hd : d = if 0 < a2 then decide (a2 - 1 = 0) else a4) : Spec Tryd.prog 50 [.ref 3 v0 6 0 0, .clo 51 [.ref 0 w0 1 0 0, .ref 1 w1 1 0 0]] [⟨w0, .obj [.clo 49 [.ref 2 w2 1 0 0]]⟩, ⟨w1, .obj [.ref 3 v0 6 0 0]⟩, ⟨w2, .obj [.own 4 v1 1 o n]⟩, ⟨v0, .obj [.own 4 v1 1 0 l.length, .val (.int .i64 (k : Int)), .val (.int .i64 a2), .val (.int .i64 a3), .val (.bool a4), .val (.int .i64 a5)]⟩, ⟨v1, .bytes l⟩]
   (pst (.val (.int .i64 (if d then 6 else 0))) [⟨w0, .obj [.clo 49 [.ref 2 w2 1 0 0]]⟩, ⟨w1, .obj [.ref 3 v0 6 0 0]⟩, ⟨w2, .obj [.own 4 v1 1 o n]⟩, ⟨v0, .obj [.own 4 v1 1 0 l.length, .val (.int .i64 (k : Int)), .val (.int .i64 (if 0 < a2 then a2 - 1 else a2)), .val (.int .i64 a3), .val (.bool d), .val (.int .i64 (if d then a5 else a5 + 1))]⟩, ⟨v1, .bytes (if d then l else fillN l o k)⟩]) := by
  refine spec_entry tbOk Tryd.func50 rfl Tryd.ntmps50 Tryd.results50 ?_
  repeat (refine gos (k := ?_))
  refine ⟨fun h => ?_, fun h => ?_⟩
  · repeat (refine gos (k := ?_))
    have e1 : 0 < a2 := of_decide_eq_true h
    refine ⟨fun h' => ?_, fun h' => ?_⟩
    · have e3 : d = true := by rw [hd, if_pos e1]; exact h'
      repeat (refine gos (k := ?_))
      simp only [e3, e1, h', ↓reduceIte]
      exact ⟨_, rfl, rfl⟩
    · have e3 : d = false := by rw [hd, if_pos e1]; exact h'
      repeat (refine gos (k := ?_))
      refine call_det (er2_vc k l hl w0 w1 w2 v0 v1 o n hk hn (a2 - 1) a3 a5 (decide (a2 - 1 = 0))) Tryd.call51 [0, 1, 2, 3, 4] rfl rfl (by decide) rfl ?_ ?_ ?_ ?_ ?_
      · exact rowt
      · exact rowt
      · exact rowt
      · exact rowt
      · repeat (refine gos (k := ?_))
        simp only [e3, e1, h', ↓reduceIte, Bool.false_eq_true]
        exact ⟨_, rfl, rfl⟩
  · have e1 : ¬ 0 < a2 := of_decide_eq_false h
    repeat (refine gos (k := ?_))
    refine ⟨fun h' => ?_, fun h' => ?_⟩
    · have e3 : d = true := by rw [hd, if_neg e1]; exact h'
      repeat (refine gos (k := ?_))
      simp only [e3, e1, h', ↓reduceIte]
      exact ⟨_, rfl, rfl⟩
    · have e3 : d = false := by rw [hd, if_neg e1]; exact h'
      repeat (refine gos (k := ?_))
      refine call_det (er2_vc k l hl w0 w1 w2 v0 v1 o n hk hn a2 a3 a5 a4) Tryd.call51 [0, 1, 2, 3, 4] rfl rfl (by decide) rfl ?_ ?_ ?_ ?_ ?_
      · exact rowt
      · exact rowt
      · exact rowt
      · exact rowt
      · repeat (refine gos (k := ?_))
        simp only [e3, e1, h', ↓reduceIte, Bool.false_eq_true]
        exact ⟨_, rfl, rfl⟩
end Go.Proofs.YtddocchgikaahaaDoor
