/- Walks of lintellaw07: does, on a flash. Conditions: none. -/
import Derived.Test.YtjfenbkhgamidaaAw
import Derived.Test.YtjfenbkhgamidaaAc
import Derived.Test.YtjfenbkhgamidaaAg1
namespace Go.Proofs.Ytjfenbkhgamidaa
open Go.RowKit
set_option linter.unusedVariables false
set_option linter.unusedSimpArgs false
set_option maxRecDepth 100000
/-- a flash as it may be: so many writes done at most -/
structure FSok (B : Int) (s : FS) : Prop where
  len : s.l.length ≤ 4194304
  k : 0 < s.k ∧ s.k ≤ 65536
  ar : I64 s.ar
  pt : 0 ≤ s.pt ∧ I64 s.pt
  wr : 0 ≤ s.wr ∧ s.wr ≤ B
theorem prog_own (s : FS) (hl : s.l.length ≤ 140737488355328) (a : Int) (ha : I64 a) (b : List UInt8) (hb : b.length ≤ 140737488355328) (hA2 : I64 s.ar) (hA5 : 0 ≤ s.wr ∧ s.wr + b.length < 9223372036854775807) (v0 v1 v2 : Nat) : Spec Try.prog 11 [.ref 0 v0 6 0 0, .val (.int .i64 a), .own 2 v2 1 0 b.length] [⟨v0, .obj [.own 1 v1 1 0 s.l.length, .val (.int .i64 (s.k : Int)), .val (.int .i64 s.ar), .val (.int .i64 s.pt), .val (.bool s.dd), .val (.int .i64 s.wr)]⟩, ⟨v1, .bytes s.l⟩, ⟨v2, .bytes b⟩]
   (pms (.val (.int .i64 (s.prog a b).1)) [⟨v0, .obj [.own 1 v1 1 0 (s.prog a b).2.l.length, .val (.int .i64 ((s.prog a b).2.k : Int)), .val (.int .i64 (s.prog a b).2.ar), .val (.int .i64 (s.prog a b).2.pt), .val (.bool (s.prog a b).2.dd), .val (.int .i64 (s.prog a b).2.wr)]⟩, ⟨v1, .bytes (s.prog a b).2.l⟩, ⟨v2, .bytes b⟩] []) := by
  have e : (b.drop 0).take b.length = b := by rw [List.drop_zero, List.take_length]
  have h := spec_rx (spec_pms (spec_prog s hl a ha ((b.drop 0).take b.length) (by rw [e]; exact hb) hA2 (by rw [e]; exact hA5) 0 v0 v1)) (R := [⟨v2, .bytes b⟩]) (args := [.ref 0 v0 6 0 0, .val (.int .i64 a), .own 2 v2 1 0 b.length])
    trivial ⟨⟨trivial, trivial, trivial, trivial, trivial, trivial, trivial⟩, trivial, trivial⟩ ⟨⟨(by decide : 1 < 2), trivial, trivial, trivial, trivial, trivial, trivial⟩, trivial, trivial⟩ ⟨⟨trivial, trivial, trivial, trivial, trivial, trivial, trivial⟩, trivial, trivial⟩ rfl trivial trivial
    (asX_cons (aX_same trivial (by decide : 0 < 2)) (asX_cons (aX_same trivial trivial) (asX_cons (aX_own (q := 0) (l := b) rfl (by omega)) asX_nil)))
  rw [e] at h
  exact h
def FS.does (s : FS) (kind at' n : Int) (b : List UInt8) : FS := if kind = 0 then s else if kind = 1 then (s.prog at' b).2 else if kind = 2 then (s.erase at').2 else if kind = 3 then (s.arm n at').2 else if kind = 4 then s.on.2 else s
theorem twin_own (b : List UInt8) (hb : b.length ≤ 140737488355328) (v : Nat) : Spec Try.prog 12 [.own 0 v 1 0 b.length] [⟨v, .bytes b⟩] (pms (.own 4 2 1 0 b.length) [⟨v, .bytes b⟩] [(4, ⟨2, .bytes b⟩)]) := by
  have e : (b.drop 0).take b.length = b := by rw [List.drop_zero, List.take_length]
  have h := spec_ro (twin_vc 0 ((b.drop 0).take b.length) (by rw [e]; exact hb)) trivial ⟨trivial, trivial⟩ (rows := [⟨v, .bytes b⟩]) (args := [.own 0 v 1 0 b.length]) (asL_cons (as_own (l := b) rfl (by omega)) asL_nil)
  rw [e] at h
  exact h
theorem same_own_bs (a b : List UInt8) (hb : a.length ≤ 140737488355328) (v z : Nat) : Spec Try.prog 20 [.own 0 v 1 0 a.length, .bs z b] [⟨v, .bytes a⟩] (pms (.val (.bool (decide (a = b)))) [⟨v, .bytes a⟩] []) := by
  have e : (a.drop 0).take a.length = a := by rw [List.drop_zero, List.take_length]
  have h := spec_ro (same_vc 0 0 ((a.drop 0).take a.length) b (by rw [e]; exact hb)) trivial trivial (rows := [⟨v, .bytes a⟩]) (args := [.own 0 v 1 0 a.length, .bs z b]) (asL_cons (as_own (l := a) rfl (by omega)) (asL_cons as_bs asL_nil))
  rw [e] at h
  exact h
structure DS where
  i : Nat
  c : List UInt8
def doesI (v0 v1 : Nat) (s : FS) (n : Nat) (e : Int) (y : DS) : St := ⟨[.any, .any, .any, .any, .any, .any, .any, .own 25 4 1 0 n, .val (.int .i64 e), .own 29 3 1 0 n, .val (.int .i64 y.i), .any, .any, .any, .any, .any, .any, .any, .any, .any, .any, .any, .any, .any, .any, .any, .any, .any, .any, .any, .any, .any, .any, .any, .any, .any, .any, .any, .any, .any, .any, .any, .any, .any, .any, .any, .any, .any, .any, .any, .any, .any, .any, .any, .any, .any, .any, .any, .any, .any, .any, .any, .any, .any, .any, .any, .any, .any, .any, .any, .any, .any], [⟨v0, .obj [.own 1 v1 1 0 s.l.length, .val (.int .i64 (s.k : Int)), .val (.int .i64 s.ar), .val (.int .i64 s.pt), .val (.bool s.dd), .val (.int .i64 s.wr)]⟩, ⟨v1, .bytes s.l⟩, ⟨0, .dead⟩, ⟨0, .dead⟩, ⟨0, .dead⟩, ⟨1, .dead⟩, ⟨0, .dead⟩, ⟨0, .dead⟩, ⟨0, .dead⟩, ⟨0, .dead⟩, ⟨0, .dead⟩, ⟨0, .dead⟩, ⟨0, .dead⟩, ⟨0, .dead⟩, ⟨0, .dead⟩, ⟨0, .dead⟩, ⟨0, .dead⟩, ⟨0, .dead⟩, ⟨0, .dead⟩, ⟨0, .dead⟩, ⟨0, .dead⟩, ⟨0, .dead⟩, ⟨0, .dead⟩, ⟨0, .dead⟩, ⟨0, .dead⟩, ⟨4, .bytes y.c⟩, ⟨0, .dead⟩, ⟨0, .dead⟩, ⟨0, .dead⟩, ⟨3, .dead⟩, ⟨0, .dead⟩, ⟨0, .dead⟩, ⟨0, .dead⟩, ⟨0, .dead⟩, ⟨0, .dead⟩, ⟨0, .dead⟩, ⟨0, .dead⟩, ⟨0, .dead⟩, ⟨0, .dead⟩, ⟨0, .dead⟩, ⟨0, .dead⟩, ⟨0, .dead⟩, ⟨0, .dead⟩, ⟨0, .dead⟩, ⟨0, .dead⟩, ⟨0, .dead⟩, ⟨0, .dead⟩, ⟨0, .dead⟩, ⟨0, .dead⟩, ⟨0, .dead⟩, ⟨0, .dead⟩, ⟨0, .dead⟩, ⟨0, .dead⟩, ⟨0, .dead⟩, ⟨0, .dead⟩, ⟨0, .dead⟩, ⟨0, .dead⟩, ⟨0, .dead⟩, ⟨0, .dead⟩, ⟨0, .dead⟩, ⟨0, .dead⟩, ⟨0, .dead⟩, ⟨0, .dead⟩, ⟨0, .dead⟩, ⟨0, .dead⟩, ⟨0, .dead⟩, ⟨0, .dead⟩, ⟨0, .dead⟩, ⟨0, .dead⟩, ⟨0, .dead⟩, ⟨0, .dead⟩, ⟨0, .dead⟩, ⟨0, .dead⟩, ⟨0, .dead⟩]⟩
theorem read_len (s : FS) (i n : Int) (h : s.l.length ≤ 4194304) : (s.read i n).2.length ≤ 4194304 := by
  unfold FS.read
  split
  · simp
  · split
    · simp; omega
    · simp
theorem does_vc (B : Int) (s : FS) (hs : FSok B s) (kind a n : Int) (b : List UInt8) (hkd : I64 kind) (ha : I64 a) (hn : I64 n) (hb : b.length ≤ 140737488355328) (hB : B + b.length < 9223372036854775806) (z v0 v1 : Nat) : Spec Try.prog 15 [.ref 0 v0 6 0 0, .agg [.val (.int .i64 kind), .val (.int .i64 a), .val (.int .i64 n), .bs z b]] [⟨v0, .obj [.own 1 v1 1 0 s.l.length, .val (.int .i64 (s.k : Int)), .val (.int .i64 s.ar), .val (.int .i64 s.pt), .val (.bool s.dd), .val (.int .i64 s.wr)]⟩, ⟨v1, .bytes s.l⟩]
   (pms .any [⟨v0, .obj [.own 1 v1 1 0 (s.does kind a n b).l.length, .val (.int .i64 ((s.does kind a n b).k : Int)), .val (.int .i64 (s.does kind a n b).ar), .val (.int .i64 (s.does kind a n b).pt), .val (.bool (s.does kind a n b).dd), .val (.int .i64 (s.does kind a n b).wr)]⟩, ⟨v1, .bytes (s.does kind a n b).l⟩] []) := by
  refine spec_forget (spec_entry tbOk Try.func15 rfl Try.ntmps15 Try.results15 ?_)
  (repeat (first | refine gos (k := ?_) | refine fun (_ : _ = false) => ?_ | refine ⟨fun (_ : true = true) => ?_, fun h => absurd h (by decide)⟩ | refine gtr (k := ?_)))
  refine And.intro (fun h => ?_) (fun h => ?_)
  · have hk := of_decide_eq_true h
    rw [show s.does kind a n b = s by simp [FS.does, hk]]
    (repeat (first | refine gos (k := ?_) | refine fun (_ : _ = false) => ?_ | refine ⟨fun (_ : true = true) => ?_, fun h => absurd h (by decide)⟩ | refine gtr (k := ?_)))
    refine cmks (spec_read s (by have := hs.len; omega) a n ha hn v0 v1) Try.call10 2 [0, 1, 0, 0, 0, 0, 0, 0, 0, 0, 0, 0, 0, 0, 0, 0, 0, 0, 0, 0, 0, 0, 0, 0, 0, 0, 0, 0, 0, 0, 25] [0, 0, 0, 0, 0, 0, 0, 0, 0, 0, 0, 0, 0, 0, 0, 0, 0, 0, 0, 0, 0, 0, 0, 0, 0, 0, 0, 0, 0, 0, 1] [30] ?_
    (repeat (first | refine gos (k := ?_) | refine fun (_ : _ = false) => ?_ | refine ⟨fun (_ : true = true) => ?_, fun h => absurd h (by decide)⟩ | refine gtr (k := ?_)))
    have hrl := read_len s a n hs.len
    refine cmks (twin_own (s.read a n).2 (by omega) 4) Try.call12 1 [25, 0, 0, 0, 29] [0, 0, 0, 0, 1] [4] ?_
    (repeat (first | refine gos (k := ?_) | refine fun (_ : _ = false) => ?_ | refine ⟨fun (_ : true = true) => ?_, fun h => absurd h (by decide)⟩ | refine gtr (k := ?_)))
    (refine sts (k := ?_))
    (refine sts (k := ?_))
    obtain ⟨N, hN⟩ : ∃ N, N = (s.read a n).2.length := ⟨_, rfl⟩
    rw [← hN]
    refine loop_of (σ := {y : DS // y.i ≤ N ∧ y.c.length = N}) (fun y => doesI v0 v1 s N (s.read a n).1 y.1) (fun y => N - y.1.i) ⟨⟨0, (s.read a n).2⟩, Nat.zero_le _, hN.symm⟩ ?_ ?_ ?_
    · simp [doesI, leT, setD, setL, updH, evA, unA, getA, getL, constA, undefs, deads]
    · simp [doesI, leH, setD, setL, updH, evA, unA, getA, getL, constA, undefs, deads]
    · rintro ⟨⟨i, c⟩, i1, i2⟩
      simp only at i1 i2
      dsimp only [doesI]
      repeat (refine gos (k := ?_))
      refine And.intro (fun h => ?_) (fun h => ?_)
      · have hlt : i < N := by have := of_decide_eq_true h; omega
        (repeat (first | refine gos (k := ?_) | refine fun (_ : _ = false) => ?_ | refine ⟨fun (_ : true = true) => ?_, fun h => absurd h (by decide)⟩ | refine gtr (k := ?_)))
        (refine sts (k := ?_))
        refine ⟨⟨⟨i + 1, c.set i 85⟩, hlt, by simpa using i2⟩, leS_of ?_ ?_, ?_⟩
        · simp [doesI, leT, setD, setL, updH, evA, unA, getA, getL, constA, undefs, deads]
        · simp [doesI, leH, setD, setL, updH, evA, unA, getA, getL, constA, undefs, deads]
        · show N - (i + 1) < N - i
          omega
      · (repeat (first | refine gos (k := ?_) | refine fun (_ : _ = false) => ?_ | refine ⟨fun (_ : true = true) => ?_, fun h => absurd h (by decide)⟩ | refine gtr (k := ?_)))
        exact ⟨_, rfl⟩
  · have hk := of_decide_eq_false h
    (repeat (first | refine gos (k := ?_) | refine fun (_ : _ = false) => ?_ | refine ⟨fun (_ : true = true) => ?_, fun h => absurd h (by decide)⟩ | refine gtr (k := ?_)))
    refine And.intro (fun h => ?_) (fun h => ?_)
    · have hk1 := of_decide_eq_true h
      rw [show s.does kind a n b = (s.prog a b).2 by simp [FS.does, hk1]]
      (repeat (first | refine gos (k := ?_) | refine fun (_ : _ = false) => ?_ | refine ⟨fun (_ : true = true) => ?_, fun h => absurd h (by decide)⟩ | refine gtr (k := ?_)))
      refine cmks (twin_vc z b hb) Try.call12 0 [0, 0, 0, 45] [0, 0, 0, 1] [3] ?_
      (repeat (first | refine gos (k := ?_) | refine fun (_ : _ = false) => ?_ | refine ⟨fun (_ : true = true) => ?_, fun h => absurd h (by decide)⟩ | refine gtr (k := ?_)))
      refine cmks (prog_own s (by have := hs.len; omega) a ha b hb hs.ar ⟨hs.wr.1, by have := hs.wr.2; omega⟩ v0 v1 3) Try.call11 3 [0, 1, 45] [0, 0, 0] [] ?_
      (repeat (first | refine gos (k := ?_) | refine fun (_ : _ = false) => ?_ | refine ⟨fun (_ : true = true) => ?_, fun h => absurd h (by decide)⟩ | refine gtr (k := ?_)))
      refine cmks (same_own_bs b b hb 3 z) Try.call20 1 [45] [0] [] ?_
      (repeat (first | refine gos (k := ?_) | refine fun (_ : _ = false) => ?_ | refine ⟨fun (_ : true = true) => ?_, fun h => absurd h (by decide)⟩ | refine gtr (k := ?_)))
      exact ⟨_, rfl⟩
    · have hk1 := of_decide_eq_false h
      (repeat (first | refine gos (k := ?_) | refine fun (_ : _ = false) => ?_ | refine ⟨fun (_ : true = true) => ?_, fun h => absurd h (by decide)⟩ | refine gtr (k := ?_)))
      refine And.intro (fun h => ?_) (fun h => ?_)
      · have hk2 := of_decide_eq_true h
        rw [show s.does kind a n b = (s.erase a).2 by simp [FS.does, hk2]]
        (repeat (first | refine gos (k := ?_) | refine fun (_ : _ = false) => ?_ | refine ⟨fun (_ : true = true) => ?_, fun h => absurd h (by decide)⟩ | refine gtr (k := ?_)))
        refine cdet (spec_erase s (by have := hs.len; omega) hs.k a ha hs.ar hs.pt ⟨hs.wr.1, by have := hs.wr.2; omega⟩ v0 v1) Try.call13 [0, 1] ?_
        (repeat (first | refine gos (k := ?_) | refine fun (_ : _ = false) => ?_ | refine ⟨fun (_ : true = true) => ?_, fun h => absurd h (by decide)⟩ | refine gtr (k := ?_)))
        exact ⟨_, rfl⟩
      · have hk2 := of_decide_eq_false h
        (repeat (first | refine gos (k := ?_) | refine fun (_ : _ = false) => ?_ | refine ⟨fun (_ : true = true) => ?_, fun h => absurd h (by decide)⟩ | refine gtr (k := ?_)))
        refine And.intro (fun h => ?_) (fun h => ?_)
        · have hk3 := of_decide_eq_true h
          rw [show s.does kind a n b = (s.arm n a).2 by simp [FS.does, hk3]]
          (repeat (first | refine gos (k := ?_) | refine fun (_ : _ = false) => ?_ | refine ⟨fun (_ : true = true) => ?_, fun h => absurd h (by decide)⟩ | refine gtr (k := ?_)))
          refine cdet (spec_arm s n a hn ha v0 v1) Try.call14 [0, 1] ?_
          (repeat (first | refine gos (k := ?_) | refine fun (_ : _ = false) => ?_ | refine ⟨fun (_ : true = true) => ?_, fun h => absurd h (by decide)⟩ | refine gtr (k := ?_)))
          exact ⟨_, rfl⟩
        · have hk3 := of_decide_eq_false h
          (repeat (first | refine gos (k := ?_) | refine fun (_ : _ = false) => ?_ | refine ⟨fun (_ : true = true) => ?_, fun h => absurd h (by decide)⟩ | refine gtr (k := ?_)))
          refine And.intro (fun h => ?_) (fun h => ?_)
          · have hk4 := of_decide_eq_true h
            rw [show s.does kind a n b = s.on.2 by simp [FS.does, hk4]]
            (repeat (first | refine gos (k := ?_) | refine fun (_ : _ = false) => ?_ | refine ⟨fun (_ : true = true) => ?_, fun h => absurd h (by decide)⟩ | refine gtr (k := ?_)))
            refine cdet (spec_on s v0 v1) Try.call22 [0, 1] ?_
            (repeat (first | refine gos (k := ?_) | refine fun (_ : _ = false) => ?_ | refine ⟨fun (_ : true = true) => ?_, fun h => absurd h (by decide)⟩ | refine gtr (k := ?_)))
            exact ⟨_, rfl⟩
          · have hk4 := of_decide_eq_false h
            rw [show s.does kind a n b = s by simp [FS.does, hk, hk1, hk2, hk3, hk4]]
            (repeat (first | refine gos (k := ?_) | refine fun (_ : _ = false) => ?_ | refine ⟨fun (_ : true = true) => ?_, fun h => absurd h (by decide)⟩ | refine gtr (k := ?_)))
            exact ⟨_, rfl⟩
end Go.Proofs.Ytjfenbkhgamidaa
