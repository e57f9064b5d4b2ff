/- Walks of lintellaw08: works. Conditions: none. -/
import Derived.Test.YtddocchgikaahaaDoorBk12
namespace Go.Proofs.YtddocchgikaahaaDoor
open Go.RowKit
set_option linter.unusedVariables false
set_option linter.unusedSimpArgs false
set_option maxRecDepth 100000
set_option maxHeartbeats 1500000
theorem Goes.format {B : Int} {n k : Nat} {s : FlS} (h : Goes B n k s) (a c : Nat) (gen : Int) : Goes (B + c + 12) n k (s.format a c gen).2 := by
  unfold FlS.format
  split
  · have := (h.wipe a c).prog ((a : Int) * s.k) (headB gen)
    rw [headB_len] at this
    exact this
  · exact (h.wipe a c).mono (by omega)
theorem Goes.add3 {B : Int} {n k : Nat} {s : FlS} (h : Goes B n k s) (q : Int) (x v : List UInt8) : Goes (B + 1 + (layB x v).length + 1) n k (s.add3 q x v).2 := by
  have h1 := h.prog q [254]
  have h2 := h1.prog (q + 1) (layB x v)
  have h3 := h2.prog q [252]
  unfold FlS.add3
  split
  · exact h1.mono (by show B + 1 ≤ _; omega)
  · split
    · exact h2.mono (by show B + 1 + _ ≤ _; omega)
    · exact h3
theorem Goes.add {B : Int} {n k : Nat} {s : FlS} (h : Goes B n k s) (a c : Nat) (x v : List UInt8) : Goes (B + 65804) n k (s.add a c x v).2 := by
  unfold FlS.add
  split
  · exact h.mono (by omega)
  · rename_i hc
    have hl := layB_len x v
    split
    · exact h.mono (by omega)
    · split
      · exact h.mono (by omega)
      · split
        · exact h.mono (by omega)
        · exact (h.add3 _ x v).mono (by omega)
theorem Goes.kill {B : Int} {n k : Nat} {s : FlS} (h : Goes B n k s) (a c : Nat) (i : Int) : Goes (B + 1) n k (s.kill a c i).2 := by
  unfold FlS.kill
  split
  · exact h.mono (by omega)
  · split
    · exact h.mono (by omega)
    · exact h.prog _ [248]
theorem ea3 : wk2.add 0 1 [107] [1, 2] = (0, wk3) := by
  unfold FlS.add
  rw [es2]
  have hd : wk2.dd = false := by kernel_rfl
  have hk : (wk2.k : Int) = 64 := by kernel_rfl
  rw [hd, hk]
  exact ek3
theorem gk0 : Goes 0 64 64 (FlS.new 1 64) := Goes.new 1 64 (by decide) (by decide)
theorem gk1 : Goes 13 64 64 wk1 := gk0.format 0 1 5
theorem gk2 : Goes 14 64 64 wk2 := gk1.prog 12 [254]
theorem gk3 : Goes 65818 64 64 wk3 := by have := gk2.add 0 1 [107] [1, 2]; rw [ea3] at this; exact this
theorem lk : Lies 64 64 0 1 := ⟨by decide, by decide, by decide, by decide⟩
theorem works_vc : Spec Tryd.prog 9 [] [] (pms (.val (.bool true)) [] []) := by
  refine spec_entry tbOk Tryd.func9 rfl Tryd.ntmps9 Tryd.results9 ?_
  (repeat (first | refine gos (k := ?_) | refine fun (_ : _ = false) => ?_ | refine ⟨fun (_ : true = true) => ?_, fun h => absurd h (by decide)⟩ | refine gtr (k := ?_)))
  refine cmks (spec_new 1 64 (by decide) (by decide)) Tryd.call10 0 [0, 0, 0, 0, 0, 0, 0, 0, 0, 0, 0, 0, 0, 0, 0, 0, 0, 0, 0, 0, 0, 0, 0, 0, 13, 0, 0, 12] [0, 0, 0, 0, 0, 0, 0, 0, 0, 0, 0, 0, 0, 0, 0, 0, 0, 0, 0, 0, 0, 0, 0, 0, 1, 0, 0, 1] [27, 24] ?_
  (repeat (first | refine gos (k := ?_) | refine fun (_ : _ = false) => ?_ | refine ⟨fun (_ : true = true) => ?_, fun h => absurd h (by decide)⟩ | refine gtr (k := ?_)))
  refine cmks (at_vc (FlS.new 1 64) 0 1 gk0 lk (by decide) 2 3) Tryd.call11 2 [12, 13, 0, 0, 0, 0, 0, 0, 0, 0, 0, 0, 0, 0, 0, 0, 0, 0, 0, 0, 0, 0, 0, 0, 0, 0, 0, 0, 0, 0, 0, 0, 0, 0, 0, 0, 0, 0, 0, 0, 0, 0, 0, 0, 0, 19] [0, 0, 0, 0, 0, 0, 0, 0, 0, 0, 0, 0, 0, 0, 0, 0, 0, 0, 0, 0, 0, 0, 0, 0, 0, 0, 0, 0, 0, 0, 0, 0, 0, 0, 0, 0, 0, 0, 0, 0, 0, 0, 0, 0, 0, 1] [45] ?_
  (repeat (first | refine gos (k := ?_) | refine fun (_ : _ = false) => ?_ | refine ⟨fun (_ : true = true) => ?_, fun h => absurd h (by decide)⟩ | refine gtr (k := ?_)))
  refine gcl (k := ?_)
  refine cdet (room_vc (FlS.new 1 64) 0 1 (gk0.bok lk) 2 2 3) Tryd.call14 [19, 12, 13] ?_
  rw [show ((1 : Nat) : Int) * ((FlS.new 1 64).k : Int) - 16 = 48 from rfl]
  (repeat (first | refine gos (k := ?_) | refine fun (_ : _ = false) => ?_ | refine ⟨fun (_ : true = true) => ?_, fun h => absurd h (by decide)⟩ | refine gtr (k := ?_)))
  refine gcl (k := ?_)
  refine cdet (need_vc 1 2 (by decide) (by decide)) Tryd.call17 [] ?_
  (repeat (first | refine gos (k := ?_) | refine fun (_ : _ = false) => ?_ | refine ⟨fun (_ : true = true) => ?_, fun h => absurd h (by decide)⟩ | refine gtr (k := ?_)))
  refine cmks (format_vc (FlS.new 1 64) 0 1 gk0 (by decide) lk 5 (by decide) 2 2 3) Tryd.call12 3 [19, 12, 13] [0, 0, 0] [] ?_
  rw [ek1]
  (repeat (first | refine gos (k := ?_) | refine fun (_ : _ = false) => ?_ | refine ⟨fun (_ : true = true) => ?_, fun h => absurd h (by decide)⟩ | refine gtr (k := ?_)))
  refine cmks (ready_vc wk1 0 1 gk1 (by decide) lk 2 2 3) Tryd.call13 3 [19, 12, 13] [0, 0, 0] [] ?_
  rw [ek2]
  (repeat (first | refine gos (k := ?_) | refine fun (_ : _ = false) => ?_ | refine ⟨fun (_ : true = true) => ?_, fun h => absurd h (by decide)⟩ | refine gtr (k := ?_)))
  refine cmks (add_own wk2 0 1 gk2 (by decide) lk [107] [1, 2] 1 2 rfl rfl (by decide) (by decide) 2 2 3 1 1) Tryd.call15 5 [19, 12, 13, 42, 44] [0, 0, 0, 0, 0] [] ?_
  rw [ea3]
  (repeat (first | refine gos (k := ?_) | refine fun (_ : _ = false) => ?_ | refine ⟨fun (_ : true = true) => ?_, fun h => absurd h (by decide)⟩ | refine gtr (k := ?_)))
  refine cmks (Scan_live wk3 0 1 gk3 lk (by kernel_rfl) 1 (by rw [es3]; rfl) 2 2 3) Tryd.call30 (he := ⟨fun _ => ⟨rfl, rfl, trivial, trivial⟩, trivial, trivial⟩) 3 [19, 12, 13, 0, 0, 0, 0, 0, 0, 0, 0, 0, 0, 48, 49] [0, 0, 0, 0, 0, 0, 0, 0, 0, 0, 0, 0, 0, 1, 1] [13, 14] ?_
  rw [es3]
  (repeat (first | refine gos (k := ?_) | refine fun (_ : _ = false) => ?_ | refine ⟨fun (_ : true = true) => ?_, fun h => absurd h (by decide)⟩ | refine gtr (k := ?_)))
  exact ⟨_, rfl, rfl, trivial⟩
end Go.Proofs.YtddocchgikaahaaDoor
