/- Walks of flash: slices.Clone, Image. Conditions: none. -/
import Derived.Test.YtddocchgikaahaaDoorAw
import Derived.Test.YtddocchgikaahaaDoorAf1
namespace Go.Proofs.YtddocchgikaahaaDoor
open Go.RowKit
set_option linter.unusedVariables false
set_option linter.unusedSimpArgs false
set_option maxRecDepth 100000
theorem clone_vc (l : List UInt8) (hl : l.length ≤ 140737488355328) (v0 o n : Nat) (h : o + n ≤ l.length) : Spec Tryd.prog 44 [.own 0 v0 1 o n] [⟨v0, .bytes l⟩]
   (pms (.own 6 2 1 0 n) [⟨v0, .bytes l⟩] [(6, ⟨2, .bytes ((l.drop o).take n)⟩)]) := by
  refine spec_entryW tbOk Tryd.func44 rfl Tryd.ntmps44 Tryd.results44 ?_
  repeat (refine gos (k := ?_))
  intro b hb
  cases b with
  | true =>
    obtain rfl := hb rfl
    repeat (refine gos (k := ?_))
    refine ⟨fun _ => ?_, fun h => absurd h (by decide)⟩
    repeat (refine gos (k := ?_))
    refine ⟨_, leS_nil 6 2 (.bytes []) rfl (by decide) rfl (t' := [.any, .any, .own 6 2 1 0 0, .any, .any, .any, .any, .any]) ?_, ?_⟩
    · simp [leTn, setD, setL, updH, evA, unA, getA, getL, constA, undefs, deads]
    repeat (refine gos (k := ?_))
    exact ⟨_, rfl, rfl, by simp [allM, getL]⟩
  | false =>
    repeat (refine gos (k := ?_))
    intro _
    repeat (refine gos (k := ?_))
    conv => whnf
    refine ⟨(l.drop o).take n, ?_⟩
    conv => whnf
    refine And.intro ?_ ?_
    · refine ⟨rfl, ⟨rfl, rfl, h⟩, rfl, rfl, rfl, rfl, rfl, rfl, ?_, by decide⟩
      simp only [List.map_nil, List.length_nil, List.length_take, List.length_drop]
      omega
    repeat (refine gos (k := ?_))
    refine ⟨_, leS_refl _, ?_⟩
    repeat (refine gos (k := ?_))
    have : ((l.drop o).take n).length = n := by simp; omega
    refine ⟨_, ?_, rfl, rfl, trivial⟩
    simp only [retV, List.map_nil, List.length_nil, this, Nat.zero_add]
theorem image_vc (l : List UInt8) (hl : l.length ≤ 140737488355328) (v0 v1 : Nat) (a1 a2 a3 a5 : Int) (a4 : Bool) : Spec Tryd.prog 21 [.ref 0 v0 6 0 0] [⟨v0, .obj [.own 1 v1 1 0 l.length, .val (.int .i64 a1), .val (.int .i64 a2), .val (.int .i64 a3), .val (.bool a4), .val (.int .i64 a5)]⟩, ⟨v1, .bytes l⟩]
   (pms (.own 11 3 1 0 l.length) [⟨v0, .obj [.own 1 v1 1 0 l.length, .val (.int .i64 a1), .val (.int .i64 a2), .val (.int .i64 a3), .val (.bool a4), .val (.int .i64 a5)]⟩, ⟨v1, .bytes l⟩] [(11, ⟨3, .bytes l⟩)]) := by
  refine spec_entry tbOk Tryd.func21 rfl Tryd.ntmps21 Tryd.results21 ?_
  repeat (refine gos (k := ?_))
  intro _
  repeat (refine gos (k := ?_))
  refine cmks (clone_vc l hl v1 0 l.length (by omega)) Tryd.call44 1 [1, 0, 0, 0, 0, 0, 11] [0, 0, 0, 0, 0, 0, 1] [6] ?_
  repeat (refine gos (k := ?_))
  simp only [List.drop_zero, List.take_length]
  exact ⟨_, rfl, rfl, rfl, trivial⟩
end Go.Proofs.YtddocchgikaahaaDoor
