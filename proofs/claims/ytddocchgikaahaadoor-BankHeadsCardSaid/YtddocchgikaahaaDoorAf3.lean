/- Walks of flash: Sectors, Arm, On, Dead, Writes. Conditions: none. -/
import Derived.Test.YtddocchgikaahaaDoorAw
import Derived.Test.YtddocchgikaahaaDoorAf1
namespace Go.Proofs.YtddocchgikaahaaDoor
open Go.RowKit
set_option linter.unusedVariables false
set_option linter.unusedSimpArgs false
set_option maxRecDepth 100000
theorem sectors_vc (l : List UInt8) (hl : l.length ≤ 140737488355328) (v0 v1 : Nat) (a1 a2 a3 a5 : Int) (a4 : Bool) (h1 : 0 < a1 ∧ I64 a1) : Spec Tryd.prog 32 [.ref 0 v0 6 0 0] [⟨v0, .obj [.own 1 v1 1 0 l.length, .val (.int .i64 a1), .val (.int .i64 a2), .val (.int .i64 a3), .val (.bool a4), .val (.int .i64 a5)]⟩, ⟨v1, .bytes l⟩] (pst (.val (.int .i64 (l.length / a1))) [⟨v0, .obj [.own 1 v1 1 0 l.length, .val (.int .i64 a1), .val (.int .i64 a2), .val (.int .i64 a3), .val (.bool a4), .val (.int .i64 a5)]⟩, ⟨v1, .bytes l⟩]) := by
  refine spec_entry tbOk Tryd.func32 rfl Tryd.ntmps32 Tryd.results32 ?_
  repeat (refine gos (k := ?_))
  intro _
  repeat (refine gos (k := ?_))
  conv => whnf
  conv => whnf
  refine draw_of (p := 2) tbOk hm [0, 1, 3, 7, 15, 0, 32, 96, 224, 511, 1023] [⟨0, false, false, []⟩, ⟨1, true, false, [7, 8, 9, 10, 11, 12, 13, 14, 2]⟩, ⟨2, true, false, [8, 9, 10, 11, 12, 13, 14, 2]⟩, ⟨3, true, false, [9, 10, 11, 12, 13, 14, 2]⟩, ⟨4, true, false, [10, 11, 12, 13, 14, 2]⟩, ⟨5, false, false, []⟩, ⟨6, true, false, [5, 6, 7, 8, 9, 12, 13, 14, 2]⟩, ⟨7, true, false, [5, 6, 7, 8, 9, 13, 14, 2]⟩, ⟨8, true, false, [5, 6, 7, 8, 9, 14, 2]⟩, ⟨9, false, false, []⟩, ⟨10, false, false, []⟩] (by kernel_rfl) ?_
  repeat (refine gos (k := ?_))
  exact ⟨_, rfl, rfl⟩
theorem arm_vc (l : List UInt8) (hl : l.length ≤ 140737488355328) (v0 v1 : Nat) (a1 a2 a3 a5 : Int) (x y : Int) (hx : I64 x) (hy : I64 y) : Spec Tryd.prog 24 [.ref 0 v0 6 0 0, .val (.int .i64 x), .val (.int .i64 y)] [⟨v0, .obj [.own 1 v1 1 0 l.length, .val (.int .i64 a1), .val (.int .i64 a2), .val (.int .i64 a3), .val (.bool false), .val (.int .i64 a5)]⟩, ⟨v1, .bytes l⟩] (pst (.val (.int .i64 (if x < 0 ∨ y < 0 then 1 else 0))) [if x < 0 ∨ y < 0 then ⟨v0, .obj [.own 1 v1 1 0 l.length, .val (.int .i64 a1), .val (.int .i64 a2), .val (.int .i64 a3), .val (.bool false), .val (.int .i64 a5)]⟩ else ⟨v0, .obj [.own 1 v1 1 0 l.length, .val (.int .i64 a1), .val (.int .i64 x), .val (.int .i64 y), .val (.bool false), .val (.int .i64 a5)]⟩, ⟨v1, .bytes l⟩]) := by
  refine spec_entry tbOk Tryd.func24 rfl Tryd.ntmps24 Tryd.results24 ?_
  repeat (refine gos (k := ?_))
  refine call_det (begin_vc v0 v1 l a1 a2 a3 a5 false) Tryd.call45 [0, 1] rfl rfl (by decide) rfl ?_ ?_ ?_ ?_ ?_
  · exact rowt
  · exact rowt
  · exact rowt
  · exact rowt
  repeat (refine gos (k := ?_))
  intro _
  repeat (refine gos (k := ?_))
  refine ⟨fun h => ?_, fun h => ?_⟩
  · have hc : x < 0 ∨ y < 0 := by simpa using h
    repeat (refine gos (k := ?_))
    rw [if_pos hc, if_pos hc]
    exact ⟨_, rfl, rfl⟩
  · have hc : ¬ (x < 0 ∨ y < 0) := by simp at h; omega
    repeat (refine gos (k := ?_))
    rw [if_neg hc, if_neg hc]
    exact ⟨_, rfl, rfl⟩
theorem on_vc (l : List UInt8) (hl : l.length ≤ 140737488355328) (v0 v1 : Nat) (a1 a2 a3 a5 : Int) (a4 : Bool) : Spec Tryd.prog 25 [.ref 0 v0 6 0 0] [⟨v0, .obj [.own 1 v1 1 0 l.length, .val (.int .i64 a1), .val (.int .i64 a2), .val (.int .i64 a3), .val (.bool a4), .val (.int .i64 a5)]⟩, ⟨v1, .bytes l⟩]
   (pst (.val (.int .i64 (if a4 then 0 else 12))) [⟨v0, .obj [.own 1 v1 1 0 l.length, .val (.int .i64 a1), .val (.int .i64 (if a4 then 0 else a2)), .val (.int .i64 a3), .val (.bool false), .val (.int .i64 a5)]⟩, ⟨v1, .bytes l⟩]) := by
  refine spec_entry tbOk Tryd.func25 rfl Tryd.ntmps25 Tryd.results25 ?_
  repeat (refine gos (k := ?_))
  intro _
  cases a4 <;> repeat (refine gos (k := ?_))
  · refine ⟨fun _ => ?_, fun h => absurd h (by decide)⟩
    repeat (refine gos (k := ?_))
    exact ⟨_, rfl, rfl⟩
  · intro _
    repeat (refine gos (k := ?_))
    exact ⟨_, rfl, rfl⟩
theorem dead_vc (l : List UInt8) (hl : l.length ≤ 140737488355328) (v0 v1 : Nat) (a1 a2 a3 a5 : Int) (a4 : Bool) : Spec Tryd.prog 29 [.ref 0 v0 6 0 0] [⟨v0, .obj [.own 1 v1 1 0 l.length, .val (.int .i64 a1), .val (.int .i64 a2), .val (.int .i64 a3), .val (.bool a4), .val (.int .i64 a5)]⟩, ⟨v1, .bytes l⟩]
   (pst (.val (.bool a4)) [⟨v0, .obj [.own 1 v1 1 0 l.length, .val (.int .i64 a1), .val (.int .i64 a2), .val (.int .i64 a3), .val (.bool a4), .val (.int .i64 a5)]⟩, ⟨v1, .bytes l⟩]) := by
  refine spec_entry tbOk Tryd.func29 rfl Tryd.ntmps29 Tryd.results29 ?_
  repeat (refine gos (k := ?_))
  exact ⟨_, rfl, rfl⟩
end Go.Proofs.YtddocchgikaahaaDoor
