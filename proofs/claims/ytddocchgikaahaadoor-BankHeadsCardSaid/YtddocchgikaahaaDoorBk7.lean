/- Walks of bank: size, read, program, Room, Ready. Conditions: none. -/
import Derived.Test.YtddocchgikaahaaDoorBk6
import Derived.Test.YtddocchgikaahaaDoorAg1
namespace Go.Proofs.YtddocchgikaahaaDoor
open Go.RowKit
set_option linter.unusedVariables false
set_option linter.unusedSimpArgs false
set_option maxRecDepth 100000
/-- a bank lies on the flash -/
structure BOk (s : FlS) (a c : Nat) : Prop where
  len : s.l.length ≤ 140737488355328
  k : 0 < s.k ∧ s.k ≤ 65536
  fit : a * s.k + c * s.k ≤ s.l.length
  ac : a ≤ 140737488355328 ∧ c ≤ 140737488355328
theorem BOk.int {s : FlS} {a c : Nat} (h : BOk s a c) : 0 ≤ (a : Int) * (s.k : Int) ∧ 0 ≤ (c : Int) * (s.k : Int) ∧ (a : Int) * (s.k : Int) + (c : Int) * (s.k : Int) ≤ s.l.length := by
  have := h.fit
  refine ⟨by exact_mod_cast Nat.zero_le _, by exact_mod_cast Nat.zero_le _, by exact_mod_cast this⟩
theorem bsize_vc (s : FlS) (a c : Nat) (h : BOk s a c) (vb v0 v1 : Nat) : Spec Tryd.prog 37 [.ref 0 vb 3 0 0] [⟨vb, .obj [.ref 1 v0 6 0 0, .val (.int .i64 (a : Int)), .val (.int .i64 (c : Int))]⟩, ⟨v0, .obj [.own 2 v1 1 0 s.l.length, .val (.int .i64 (s.k : Int)), .val (.int .i64 s.ar), .val (.int .i64 s.pt), .val (.bool s.dd), .val (.int .i64 s.wr)]⟩, ⟨v1, .bytes s.l⟩] (pst (.val (.int .i64 ((c : Int) * s.k))) [⟨vb, .obj [.ref 1 v0 6 0 0, .val (.int .i64 (a : Int)), .val (.int .i64 (c : Int))]⟩, ⟨v0, .obj [.own 2 v1 1 0 s.l.length, .val (.int .i64 (s.k : Int)), .val (.int .i64 s.ar), .val (.int .i64 s.pt), .val (.bool s.dd), .val (.int .i64 s.wr)]⟩, ⟨v1, .bytes s.l⟩]) := by
  have hi := h.int
  have hl := h.len
  refine spec_entry tbOk Tryd.func37 rfl Tryd.ntmps37 Tryd.results37 ?_
  (repeat (first | refine gos (k := ?_) | refine fun (_ : _ = false) => ?_ | refine ⟨fun (_ : true = true) => ?_, fun h => absurd h (by decide)⟩ | refine gtr (k := ?_)))
  (refine sts (k := ?_))
  refine draw_of (p := 3) tbOk hm [0, 1, 3, 7, 0, 16, 48, 112, 240, 511, 1023] [⟨0, false, false, []⟩, ⟨1, true, false, [5, 6, 7, 8, 9, 10, 11, 12, 2]⟩, ⟨2, true, false, [6, 7, 8, 9, 10, 11, 12, 2]⟩, ⟨3, true, false, [7, 8, 9, 10, 11, 12, 2]⟩, ⟨4, false, false, []⟩, ⟨5, true, false, [3, 4, 5, 6, 9, 10, 11, 12, 2]⟩, ⟨6, true, false, [3, 4, 5, 6, 10, 11, 12, 2]⟩, ⟨7, true, false, [3, 4, 5, 6, 11, 12, 2]⟩, ⟨8, true, false, [3, 4, 5, 6, 12, 2]⟩, ⟨9, false, false, []⟩, ⟨10, false, false, []⟩] (by kernel_rfl) ?_
  (repeat (first | refine gos (k := ?_) | refine fun (_ : _ = false) => ?_ | refine ⟨fun (_ : true = true) => ?_, fun h => absurd h (by decide)⟩ | refine gtr (k := ?_)))
  refine cdet (spec_size s v0 v1) Tryd.call33 [1, 2] ?_
  (repeat (first | refine gos (k := ?_) | refine fun (_ : _ = false) => ?_ | refine ⟨fun (_ : true = true) => ?_, fun h => absurd h (by decide)⟩ | refine gtr (k := ?_)))
  exact ⟨_, rfl, rfl⟩
theorem room_vc (s : FlS) (a c : Nat) (h : BOk s a c) (vb v0 v1 : Nat) : Spec Tryd.prog 14 [.ref 0 vb 3 0 0] [⟨vb, .obj [.ref 1 v0 6 0 0, .val (.int .i64 (a : Int)), .val (.int .i64 (c : Int))]⟩, ⟨v0, .obj [.own 2 v1 1 0 s.l.length, .val (.int .i64 (s.k : Int)), .val (.int .i64 s.ar), .val (.int .i64 s.pt), .val (.bool s.dd), .val (.int .i64 s.wr)]⟩, ⟨v1, .bytes s.l⟩] (pst (.val (.int .i64 ((c : Int) * s.k - 16))) [⟨vb, .obj [.ref 1 v0 6 0 0, .val (.int .i64 (a : Int)), .val (.int .i64 (c : Int))]⟩, ⟨v0, .obj [.own 2 v1 1 0 s.l.length, .val (.int .i64 (s.k : Int)), .val (.int .i64 s.ar), .val (.int .i64 s.pt), .val (.bool s.dd), .val (.int .i64 s.wr)]⟩, ⟨v1, .bytes s.l⟩]) := by
  have hi := h.int
  have hl := h.len
  refine spec_entry tbOk Tryd.func14 rfl Tryd.ntmps14 Tryd.results14 ?_
  (repeat (first | refine gos (k := ?_) | refine fun (_ : _ = false) => ?_ | refine ⟨fun (_ : true = true) => ?_, fun h => absurd h (by decide)⟩ | refine gtr (k := ?_)))
  refine cdet (bsize_vc s a c h vb v0 v1) Tryd.call37 [0, 1, 2] ?_
  (repeat (first | refine gos (k := ?_) | refine fun (_ : _ = false) => ?_ | refine ⟨fun (_ : true = true) => ?_, fun h => absurd h (by decide)⟩ | refine gtr (k := ?_)))
  exact ⟨_, rfl, rfl⟩
theorem bread_vc (s : FlS) (a c : Nat) (h : BOk s a c) (n : Int) (hn : I64 n) (vb v0 v1 : Nat) : Spec Tryd.prog 41 [.ref 0 vb 3 0 0, .val (.int .i64 n)] [⟨vb, .obj [.ref 1 v0 6 0 0, .val (.int .i64 (a : Int)), .val (.int .i64 (c : Int))]⟩, ⟨v0, .obj [.own 2 v1 1 0 s.l.length, .val (.int .i64 (s.k : Int)), .val (.int .i64 s.ar), .val (.int .i64 s.pt), .val (.bool s.dd), .val (.int .i64 s.wr)]⟩, ⟨v1, .bytes s.l⟩]
   (pms (.tup [.own 24 4 1 0 (s.read ((a : Int) * s.k) n).2.length, .val (.int .i64 (s.read ((a : Int) * s.k) n).1)]) [⟨vb, .obj [.ref 1 v0 6 0 0, .val (.int .i64 (a : Int)), .val (.int .i64 (c : Int))]⟩, ⟨v0, .obj [.own 2 v1 1 0 s.l.length, .val (.int .i64 (s.k : Int)), .val (.int .i64 s.ar), .val (.int .i64 s.pt), .val (.bool s.dd), .val (.int .i64 s.wr)]⟩, ⟨v1, .bytes s.l⟩] [(24, ⟨4, .bytes (s.read ((a : Int) * s.k) n).2⟩)]) := by
  have hi := h.int
  have hl := h.len
  refine spec_entry tbOk Tryd.func41 rfl Tryd.ntmps41 Tryd.results41 ?_
  (repeat (first | refine gos (k := ?_) | refine fun (_ : _ = false) => ?_ | refine ⟨fun (_ : true = true) => ?_, fun h => absurd h (by decide)⟩ | refine gtr (k := ?_)))
  (refine sts (k := ?_))
  refine draw_of (p := 3) tbOk hm [0, 1, 3, 7, 0, 16, 48, 112, 0, 256, 768, 1792, 3840, 8176, 0, 32767, 65535, 65535, 262143, 524287] [⟨0, false, false, []⟩, ⟨1, true, false, [8, 9, 10, 11, 12, 13, 14, 15, 16, 17, 18, 19, 20, 21, 22, 23, 4, 5]⟩, ⟨2, true, false, [9, 10, 11, 12, 13, 14, 15, 16, 17, 18, 19, 20, 21, 22, 23, 4, 5]⟩, ⟨3, true, false, [10, 11, 12, 13, 14, 15, 16, 17, 18, 19, 20, 21, 22, 23, 4, 5]⟩, ⟨4, false, false, []⟩, ⟨5, true, false, [6, 7, 8, 9, 12, 13, 14, 15, 16, 17, 18, 19, 20, 21, 22, 23, 4, 5]⟩, ⟨6, true, false, [6, 7, 8, 9, 13, 14, 15, 16, 17, 18, 19, 20, 21, 22, 23, 4, 5]⟩, ⟨7, true, false, [6, 7, 8, 9, 14, 15, 16, 17, 18, 19, 20, 21, 22, 23, 4, 5]⟩, ⟨8, false, false, []⟩, ⟨9, true, false, [6, 7, 8, 9, 10, 11, 12, 13, 16, 17, 18, 19, 20, 21, 22, 23, 4, 5]⟩, ⟨10, true, false, [6, 7, 8, 9, 10, 11, 12, 13, 17, 18, 19, 20, 21, 22, 23, 4, 5]⟩, ⟨11, true, false, [6, 7, 8, 9, 10, 11, 12, 13, 18, 19, 20, 21, 22, 23, 4, 5]⟩, ⟨14, false, false, []⟩, ⟨12, true, false, [6, 7, 8, 9, 10, 11, 12, 13, 19, 20, 21, 22, 23, 4, 5]⟩, ⟨13, false, false, []⟩, ⟨15, true, true, [22, 23, 4, 5]⟩, ⟨16, false, false, []⟩, ⟨17, false, false, []⟩, ⟨18, false, false, []⟩, ⟨19, false, false, []⟩] (by kernel_rfl) ?_
  (repeat (first | refine gos (k := ?_) | refine fun (_ : _ = false) => ?_ | refine ⟨fun (_ : true = true) => ?_, fun h => absurd h (by decide)⟩ | refine gtr (k := ?_)))
  refine cdet (spec_size s v0 v1) Tryd.call33 [1, 2] ?_
  (repeat (first | refine gos (k := ?_) | refine fun (_ : _ = false) => ?_ | refine ⟨fun (_ : true = true) => ?_, fun h => absurd h (by decide)⟩ | refine gtr (k := ?_)))
  refine cmks (spec_read s hl ((a : Int) * s.k) n (by unfold I64; omega) hn v0 v1) Tryd.call57 2 [1, 2, 0, 0, 0, 0, 0, 0, 0, 0, 0, 0, 0, 0, 0, 0, 0, 0, 0, 0, 0, 0, 0, 0, 0, 0, 0, 0, 0, 0, 24] [0, 0, 0, 0, 0, 0, 0, 0, 0, 0, 0, 0, 0, 0, 0, 0, 0, 0, 0, 0, 0, 0, 0, 0, 0, 0, 0, 0, 0, 0, 1] [30] ?_
  (repeat (first | refine gos (k := ?_) | refine fun (_ : _ = false) => ?_ | refine ⟨fun (_ : true = true) => ?_, fun h => absurd h (by decide)⟩ | refine gtr (k := ?_)))
  exact ⟨_, rfl, rfl, rfl, trivial⟩
theorem bprog_vc (s : FlS) (a c : Nat) (h : BOk s a c) (at_ : Int) (ha : I64 (a * s.k + at_)) (m : List UInt8) (hm' : m.length ≤ 140737488355328) (hA2 : I64 s.ar) (hA5 : 0 ≤ s.wr ∧ s.wr + m.length < 9223372036854775807) (z : Nat) (vb v0 v1 : Nat) : Spec Tryd.prog 35 [.ref 0 vb 3 0 0, .val (.int .i64 at_), .bs z m] [⟨vb, .obj [.ref 1 v0 6 0 0, .val (.int .i64 (a : Int)), .val (.int .i64 (c : Int))]⟩, ⟨v0, .obj [.own 2 v1 1 0 s.l.length, .val (.int .i64 (s.k : Int)), .val (.int .i64 s.ar), .val (.int .i64 s.pt), .val (.bool s.dd), .val (.int .i64 s.wr)]⟩, ⟨v1, .bytes s.l⟩]
   (pst (.val (.int .i64 (s.prog ((a : Int) * s.k + at_) m).1)) [⟨vb, .obj [.ref 1 v0 6 0 0, .val (.int .i64 (a : Int)), .val (.int .i64 (c : Int))]⟩, ⟨v0, .obj [.own 2 v1 1 0 (s.prog ((a : Int) * s.k + at_) m).2.l.length, .val (.int .i64 ((s.prog ((a : Int) * s.k + at_) m).2.k : Int)), .val (.int .i64 (s.prog ((a : Int) * s.k + at_) m).2.ar), .val (.int .i64 (s.prog ((a : Int) * s.k + at_) m).2.pt), .val (.bool (s.prog ((a : Int) * s.k + at_) m).2.dd), .val (.int .i64 (s.prog ((a : Int) * s.k + at_) m).2.wr)]⟩, ⟨v1, .bytes (s.prog ((a : Int) * s.k + at_) m).2.l⟩]) := by
  have hi := h.int
  have hl := h.len
  refine spec_entry tbOk Tryd.func35 rfl Tryd.ntmps35 Tryd.results35 ?_
  (repeat (first | refine gos (k := ?_) | refine fun (_ : _ = false) => ?_ | refine ⟨fun (_ : true = true) => ?_, fun h => absurd h (by decide)⟩ | refine gtr (k := ?_)))
  (refine sts (k := ?_))
  refine draw_of (p := 3) tbOk hm [0, 1, 3, 7, 0, 16, 48, 112, 0, 256, 768, 1792, 3840, 8176, 0, 32752, 0, 131071, 262143] [⟨0, false, false, []⟩, ⟨1, true, false, [9, 10, 11, 12, 13, 14, 15, 16, 17, 18, 19, 20, 21, 22, 23, 24, 6]⟩, ⟨2, true, false, [10, 11, 12, 13, 14, 15, 16, 17, 18, 19, 20, 21, 22, 23, 24, 6]⟩, ⟨3, true, false, [11, 12, 13, 14, 15, 16, 17, 18, 19, 20, 21, 22, 23, 24, 6]⟩, ⟨4, false, false, []⟩, ⟨5, true, false, [7, 8, 9, 10, 13, 14, 15, 16, 17, 18, 19, 20, 21, 22, 23, 24, 6]⟩, ⟨6, true, false, [7, 8, 9, 10, 14, 15, 16, 17, 18, 19, 20, 21, 22, 23, 24, 6]⟩, ⟨7, true, false, [7, 8, 9, 10, 15, 16, 17, 18, 19, 20, 21, 22, 23, 24, 6]⟩, ⟨8, false, false, []⟩, ⟨9, true, false, [7, 8, 9, 10, 11, 12, 13, 14, 17, 18, 19, 20, 21, 22, 23, 24, 6]⟩, ⟨10, true, false, [7, 8, 9, 10, 11, 12, 13, 14, 18, 19, 20, 21, 22, 23, 24, 6]⟩, ⟨11, true, false, [7, 8, 9, 10, 11, 12, 13, 14, 19, 20, 21, 22, 23, 24, 6]⟩, ⟨14, false, false, []⟩, ⟨16, false, false, []⟩, ⟨12, true, false, [7, 8, 9, 10, 11, 12, 13, 14, 20, 21, 22, 23, 24, 6]⟩, ⟨13, false, false, []⟩, ⟨15, false, false, []⟩, ⟨17, true, true, [6]⟩, ⟨18, false, false, []⟩] (by kernel_rfl) ?_
  (repeat (first | refine gos (k := ?_) | refine fun (_ : _ = false) => ?_ | refine ⟨fun (_ : true = true) => ?_, fun h => absurd h (by decide)⟩ | refine gtr (k := ?_)))
  refine cdet (spec_size s v0 v1) Tryd.call33 [1, 2] ?_
  (repeat (first | refine gos (k := ?_) | refine fun (_ : _ = false) => ?_ | refine ⟨fun (_ : true = true) => ?_, fun h => absurd h (by decide)⟩ | refine gtr (k := ?_)))
  refine cdet (spec_prog s hl ((a : Int) * s.k + at_) ha m hm' hA2 hA5 z v0 v1) Tryd.call46 [1, 2] ?_
  (repeat (first | refine gos (k := ?_) | refine fun (_ : _ = false) => ?_ | refine ⟨fun (_ : true = true) => ?_, fun h => absurd h (by decide)⟩ | refine gtr (k := ?_)))
  exact ⟨_, rfl, rfl⟩
end Go.Proofs.YtddocchgikaahaaDoor
