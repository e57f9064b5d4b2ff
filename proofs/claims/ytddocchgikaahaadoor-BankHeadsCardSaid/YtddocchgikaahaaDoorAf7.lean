/- Walks of flash: Erase$2. Conditions: none. -/
import Derived.Test.YtddocchgikaahaaDoorAw
import Derived.Test.YtddocchgikaahaaDoorAf6
namespace Go.Proofs.YtddocchgikaahaaDoor
open Go.RowKit
set_option linter.unusedVariables false
set_option linter.unusedSimpArgs false
set_option maxRecDepth 100000
theorem er2_vc (k : Nat) (l : List UInt8) (hl : l.length ≤ 140737488355328) (w0 w1 w2 v0 v1 o n : Nat) (hk : k ≤ n) (hn : o + n ≤ l.length) (a2 a3 a5 : Int) (a4 : Bool) : Spec Tryd.prog 51 [.ref 0 w0 1 0 0, .ref 1 w1 1 0 0] [⟨w0, .obj [.clo 49 [.ref 2 w2 1 0 0]]⟩, ⟨w1, .obj [.ref 3 v0 6 0 0]⟩, ⟨w2, .obj [.own 4 v1 1 o n]⟩, ⟨v0, .obj [.own 4 v1 1 0 l.length, .val (.int .i64 (k : Int)), .val (.int .i64 a2), .val (.int .i64 a3), .val (.bool a4), .val (.int .i64 a5)]⟩, ⟨v1, .bytes l⟩]
   (pst (.tup []) [⟨w0, .obj [.clo 49 [.ref 2 w2 1 0 0]]⟩, ⟨w1, .obj [.ref 3 v0 6 0 0]⟩, ⟨w2, .obj [.own 4 v1 1 o n]⟩, ⟨v0, .obj [.own 4 v1 1 0 l.length, .val (.int .i64 (k : Int)), .val (.int .i64 a2), .val (.int .i64 a3), .val (.bool a4), .val (.int .i64 a5)]⟩, ⟨v1, .bytes (fillN l o k)⟩]) := by
  refine spec_entry tbOk Tryd.func51 rfl Tryd.ntmps51 Tryd.results51 ?_
  conv => whnf
  refine draw_of (p := 5) tbOk hm [0, 0, 2, 6, 14, 31] [⟨0, true, false, [3, 4, 5, 6, 7]⟩, ⟨1, true, false, [2, 4, 5, 6, 7]⟩, ⟨2, true, false, [2, 5, 6, 7]⟩, ⟨3, true, false, [2, 6, 7]⟩, ⟨4, true, false, [2, 7]⟩, ⟨5, true, true, []⟩] (by kernel_rfl) ?_
  repeat (refine gos (k := ?_))
  refine call_det (er1_vc k l hl w2 v1 o n hk hn) Tryd.call49 [2, 4] rfl rfl (by decide) rfl ?_ ?_ ?_ ?_ ?_
  · exact rowt
  · exact rowt
  · exact rowt
  · exact rowt
  repeat (refine gos (k := ?_))
  exact ⟨_, rfl, rfl⟩
end Go.Proofs.YtddocchgikaahaaDoor
