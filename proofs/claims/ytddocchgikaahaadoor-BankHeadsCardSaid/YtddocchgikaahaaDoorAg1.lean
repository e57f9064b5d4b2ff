/- The flash as a record, and what each call makes of it. Conditions: none. -/
import Derived.Test.YtddocchgikaahaaDoorAw
import Derived.Test.YtddocchgikaahaaDoorAf12
import Derived.Test.YtddocchgikaahaaDoorAf10
import Derived.Test.YtddocchgikaahaaDoorAf9
import Derived.Test.YtddocchgikaahaaDoorAf4
import Derived.Test.YtddocchgikaahaaDoorAf2
namespace Go.Proofs.YtddocchgikaahaaDoor
open Go.RowKit
set_option linter.unusedVariables false
set_option linter.unusedSimpArgs false
set_option maxRecDepth 100000
structure FlS where
  l : List UInt8
  k : Nat
  ar : Int
  pt : Int
  dd : Bool
  wr : Int
def FlS.arm (s : FlS) (x y : Int) : Int × FlS := if s.dd then (6, s) else if x < 0 ∨ y < 0 then (1, s) else (0, ⟨s.l, s.k, x, y, false, s.wr⟩)
def FlS.on (s : FlS) : Int × FlS := if s.dd then (0, ⟨s.l, s.k, 0, s.pt, false, s.wr⟩) else (12, s)
def FlS.read (s : FlS) (i n : Int) : Int × List UInt8 := if s.dd then (6, []) else if 0 ≤ i ∧ 0 ≤ n ∧ i + n ≤ s.l.length then (0, (s.l.drop i.toNat).take n.toNat) else (1, [])
def FlS.prog (s : FlS) (a : Int) (m : List UInt8) : Int × FlS := if s.dd then (6, s) else if 0 ≤ a ∧ a + m.length ≤ s.l.length then ((progF m a.toNat s.l s.ar s.wr).1, ⟨(progF m a.toNat s.l s.ar s.wr).2.1, s.k, (progF m a.toNat s.l s.ar s.wr).2.2.1, s.pt, (progF m a.toNat s.l s.ar s.wr).2.2.2.1, (progF m a.toNat s.l s.ar s.wr).2.2.2.2⟩) else (1, s)
def FlS.goes (s : FlS) : Bool := if 0 < s.ar then decide (s.ar - 1 = 0) else false
def FlS.erase (s : FlS) (x : Int) : Int × FlS := if s.dd then (6, s) else if 0 ≤ x ∧ x < s.l.length / (s.k : Int) then (if s.goes then 6 else 0, ⟨if s.goes then fillN s.l (x.toNat * s.k) (min s.pt (s.k : Int)).toNat else fillN s.l (x.toNat * s.k) s.k, s.k, if 0 < s.ar then s.ar - 1 else s.ar, s.pt, s.goes, if s.goes then s.wr else s.wr + 1⟩) else (1, s)
theorem progF_length : ∀ (m : List UInt8) (k : Nat) (c : List UInt8) (left w : Int), (progF m k c left w).2.1.length = c.length
  | [], _, _, _, _ => rfl
  | b :: m, k, c, left, w => by
    rw [progF]
    split
    · rfl
    · rw [progF_length m]; simp
theorem spec_arm (s : FlS) (x y : Int) (hx : I64 x) (hy : I64 y) (v0 v1 : Nat) : Spec Tryd.prog 24 [.ref 0 v0 6 0 0, .val (.int .i64 x), .val (.int .i64 y)] [⟨v0, .obj [.own 1 v1 1 0 s.l.length, .val (.int .i64 (s.k : Int)), .val (.int .i64 s.ar), .val (.int .i64 s.pt), .val (.bool s.dd), .val (.int .i64 s.wr)]⟩, ⟨v1, .bytes s.l⟩] (pst (.val (.int .i64 (s.arm x y).1)) [⟨v0, .obj [.own 1 v1 1 0 (s.arm x y).2.l.length, .val (.int .i64 ((s.arm x y).2.k : Int)), .val (.int .i64 (s.arm x y).2.ar), .val (.int .i64 (s.arm x y).2.pt), .val (.bool (s.arm x y).2.dd), .val (.int .i64 (s.arm x y).2.wr)]⟩, ⟨v1, .bytes (s.arm x y).2.l⟩]) := by
  obtain ⟨l, k, ar, pt, dd, wr⟩ := s
  refine spec_entry tbOk Tryd.func24 rfl Tryd.ntmps24 Tryd.results24 ?_
  (repeat (first | refine gos (k := ?_) | refine fun (_ : _ = false) => ?_ | refine ⟨fun (_ : true = true) => ?_, fun h => absurd h (by decide)⟩ | refine gtr (k := ?_)))
  refine cdet (begin_vc v0 v1 l k ar pt wr dd) Tryd.call45 [0, 1] ?_
  cases dd with
  | true =>
    (repeat (first | refine gos (k := ?_) | refine fun (_ : _ = false) => ?_ | refine ⟨fun (_ : true = true) => ?_, fun h => absurd h (by decide)⟩ | refine gtr (k := ?_)))
    exact ⟨_, rfl, rfl⟩
  | false =>
    (repeat (first | refine gos (k := ?_) | refine fun (_ : _ = false) => ?_ | refine ⟨fun (_ : true = true) => ?_, fun h => absurd h (by decide)⟩ | refine gtr (k := ?_)))
    refine And.intro (fun h => ?_) (fun h => ?_)
    · have hc : x < 0 ∨ y < 0 := by simpa using h
      (repeat (first | refine gos (k := ?_) | refine fun (_ : _ = false) => ?_ | refine ⟨fun (_ : true = true) => ?_, fun h => absurd h (by decide)⟩ | refine gtr (k := ?_)))
      simp only [FlS.arm, if_pos hc, Bool.false_eq_true, if_false]
      exact ⟨_, rfl, rfl⟩
    · have hc : ¬ (x < 0 ∨ y < 0) := by simp at h; omega
      (repeat (first | refine gos (k := ?_) | refine fun (_ : _ = false) => ?_ | refine ⟨fun (_ : true = true) => ?_, fun h => absurd h (by decide)⟩ | refine gtr (k := ?_)))
      simp only [FlS.arm, if_neg hc, Bool.false_eq_true, if_false]
      exact ⟨_, rfl, rfl⟩
theorem spec_on (s : FlS) (v0 v1 : Nat) : Spec Tryd.prog 25 [.ref 0 v0 6 0 0] [⟨v0, .obj [.own 1 v1 1 0 s.l.length, .val (.int .i64 (s.k : Int)), .val (.int .i64 s.ar), .val (.int .i64 s.pt), .val (.bool s.dd), .val (.int .i64 s.wr)]⟩, ⟨v1, .bytes s.l⟩] (pst (.val (.int .i64 s.on.1)) [⟨v0, .obj [.own 1 v1 1 0 s.on.2.l.length, .val (.int .i64 (s.on.2.k : Int)), .val (.int .i64 s.on.2.ar), .val (.int .i64 s.on.2.pt), .val (.bool s.on.2.dd), .val (.int .i64 s.on.2.wr)]⟩, ⟨v1, .bytes s.on.2.l⟩]) := by
  obtain ⟨l, k, ar, pt, dd, wr⟩ := s
  refine spec_entry tbOk Tryd.func25 rfl Tryd.ntmps25 Tryd.results25 ?_
  cases dd <;> (repeat (first | refine gos (k := ?_) | refine fun (_ : _ = false) => ?_ | refine ⟨fun (_ : true = true) => ?_, fun h => absurd h (by decide)⟩ | refine gtr (k := ?_))) <;> exact ⟨_, rfl, rfl⟩
theorem spec_dead (s : FlS) (v0 v1 : Nat) : Spec Tryd.prog 29 [.ref 0 v0 6 0 0] [⟨v0, .obj [.own 1 v1 1 0 s.l.length, .val (.int .i64 (s.k : Int)), .val (.int .i64 s.ar), .val (.int .i64 s.pt), .val (.bool s.dd), .val (.int .i64 s.wr)]⟩, ⟨v1, .bytes s.l⟩] (pst (.val (.bool s.dd)) [⟨v0, .obj [.own 1 v1 1 0 s.l.length, .val (.int .i64 (s.k : Int)), .val (.int .i64 s.ar), .val (.int .i64 s.pt), .val (.bool s.dd), .val (.int .i64 s.wr)]⟩, ⟨v1, .bytes s.l⟩]) := by
  obtain ⟨l, k, ar, pt, dd, wr⟩ := s
  refine spec_entry tbOk Tryd.func29 rfl Tryd.ntmps29 Tryd.results29 ?_
  (repeat (first | refine gos (k := ?_) | refine fun (_ : _ = false) => ?_ | refine ⟨fun (_ : true = true) => ?_, fun h => absurd h (by decide)⟩ | refine gtr (k := ?_)))
  exact ⟨_, rfl, rfl⟩
theorem spec_size (s : FlS) (v0 v1 : Nat) : Spec Tryd.prog 33 [.ref 0 v0 6 0 0] [⟨v0, .obj [.own 1 v1 1 0 s.l.length, .val (.int .i64 (s.k : Int)), .val (.int .i64 s.ar), .val (.int .i64 s.pt), .val (.bool s.dd), .val (.int .i64 s.wr)]⟩, ⟨v1, .bytes s.l⟩] (pst (.val (.int .i64 (s.k : Int))) [⟨v0, .obj [.own 1 v1 1 0 s.l.length, .val (.int .i64 (s.k : Int)), .val (.int .i64 s.ar), .val (.int .i64 s.pt), .val (.bool s.dd), .val (.int .i64 s.wr)]⟩, ⟨v1, .bytes s.l⟩]) := by
  obtain ⟨l, k, ar, pt, dd, wr⟩ := s
  refine spec_entry tbOk Tryd.func33 rfl Tryd.ntmps33 Tryd.results33 ?_
  (repeat (first | refine gos (k := ?_) | refine fun (_ : _ = false) => ?_ | refine ⟨fun (_ : true = true) => ?_, fun h => absurd h (by decide)⟩ | refine gtr (k := ?_)))
  exact ⟨_, rfl, rfl⟩
theorem spec_sectors (s : FlS) (hl : s.l.length ≤ 140737488355328) (hk : 0 < s.k ∧ s.k ≤ 65536) (v0 v1 : Nat) : Spec Tryd.prog 32 [.ref 0 v0 6 0 0] [⟨v0, .obj [.own 1 v1 1 0 s.l.length, .val (.int .i64 (s.k : Int)), .val (.int .i64 s.ar), .val (.int .i64 s.pt), .val (.bool s.dd), .val (.int .i64 s.wr)]⟩, ⟨v1, .bytes s.l⟩] (pst (.val (.int .i64 (s.l.length / (s.k : Int)))) [⟨v0, .obj [.own 1 v1 1 0 s.l.length, .val (.int .i64 (s.k : Int)), .val (.int .i64 s.ar), .val (.int .i64 s.pt), .val (.bool s.dd), .val (.int .i64 s.wr)]⟩, ⟨v1, .bytes s.l⟩]) :=
  sectors_vc s.l hl v0 v1 s.k s.ar s.pt s.wr s.dd ⟨by omega, by omega, by omega⟩
theorem spec_image (s : FlS) (hl : s.l.length ≤ 140737488355328) (v0 v1 : Nat) : Spec Tryd.prog 21 [.ref 0 v0 6 0 0] [⟨v0, .obj [.own 1 v1 1 0 s.l.length, .val (.int .i64 (s.k : Int)), .val (.int .i64 s.ar), .val (.int .i64 s.pt), .val (.bool s.dd), .val (.int .i64 s.wr)]⟩, ⟨v1, .bytes s.l⟩] (pms (.own 11 3 1 0 s.l.length) [⟨v0, .obj [.own 1 v1 1 0 s.l.length, .val (.int .i64 (s.k : Int)), .val (.int .i64 s.ar), .val (.int .i64 s.pt), .val (.bool s.dd), .val (.int .i64 s.wr)]⟩, ⟨v1, .bytes s.l⟩] [(11, ⟨3, .bytes s.l⟩)]) :=
  image_vc s.l hl v0 v1 s.k s.ar s.pt s.wr s.dd
theorem spec_read (s : FlS) (hl : s.l.length ≤ 140737488355328) (i n : Int) (hi : I64 i) (hn : I64 n) (v0 v1 : Nat) : Spec Tryd.prog 57 [.ref 0 v0 6 0 0, .val (.int .i64 i), .val (.int .i64 n)] [⟨v0, .obj [.own 1 v1 1 0 s.l.length, .val (.int .i64 (s.k : Int)), .val (.int .i64 s.ar), .val (.int .i64 s.pt), .val (.bool s.dd), .val (.int .i64 s.wr)]⟩, ⟨v1, .bytes s.l⟩]
   (pms (.tup [.own 30 3 1 0 (s.read i n).2.length, .val (.int .i64 (s.read i n).1)]) [⟨v0, .obj [.own 1 v1 1 0 s.l.length, .val (.int .i64 (s.k : Int)), .val (.int .i64 s.ar), .val (.int .i64 s.pt), .val (.bool s.dd), .val (.int .i64 s.wr)]⟩, ⟨v1, .bytes s.l⟩] [(30, ⟨3, .bytes (s.read i n).2⟩)]) := by
  obtain ⟨l, k, ar, pt, dd, wr⟩ := s
  simp only at hl
  refine spec_entryW tbOk Tryd.func57 rfl Tryd.ntmps57 Tryd.results57 ?_
  (repeat (first | refine gos (k := ?_) | refine fun (_ : _ = false) => ?_ | refine ⟨fun (_ : true = true) => ?_, fun h => absurd h (by decide)⟩ | refine gtr (k := ?_)))
  refine cdet (begin_vc v0 v1 l k ar pt wr dd) Tryd.call45 [0, 1] ?_
  cases dd with
  | true =>
    (repeat (first | refine gos (k := ?_) | refine fun (_ : _ = false) => ?_ | refine ⟨fun (_ : true = true) => ?_, fun h => absurd h (by decide)⟩ | refine gtr (k := ?_)))
    refine ⟨_, leS_nil 30 3 (.bytes []) rfl (by decide) rfl (t' := [.any, .any, .any, .any, .any, .any, .own 30 3 1 0 0, .val (.int .i64 6), .any, .any, .any, .any, .any, .any, .any, .any, .any, .any, .any, .any, .any, .any, .any, .any, .any, .any, .any, .any, .any]) ?_, ?_⟩
    · simp [leTn, setD, setL, updH, evA, unA, getA, getL, constA, undefs, deads]
    (repeat (first | refine gos (k := ?_) | refine fun (_ : _ = false) => ?_ | refine ⟨fun (_ : true = true) => ?_, fun h => absurd h (by decide)⟩ | refine gtr (k := ?_)))
    exact ⟨_, rfl, rfl, rfl, trivial⟩
  | false =>
    (repeat (first | refine gos (k := ?_) | refine fun (_ : _ = false) => ?_ | refine ⟨fun (_ : true = true) => ?_, fun h => absurd h (by decide)⟩ | refine gtr (k := ?_)))
    refine cdet (within_vc i n hi hn l hl v0 v1 k ar pt wr false) Tryd.call59 [0, 1] ?_
    by_cases hc : 0 ≤ i ∧ 0 ≤ n ∧ i + n ≤ l.length
    · rw [decide_eq_true hc]
      (repeat (first | refine gos (k := ?_) | refine fun (_ : _ = false) => ?_ | refine ⟨fun (_ : true = true) => ?_, fun h => absurd h (by decide)⟩ | refine gtr (k := ?_)))
      refine cmks (clone_vc l hl v1 (0 + i.toNat) ((i + n).toNat - i.toNat) (by omega)) Tryd.call44 1 [1, 0, 0, 0, 0, 0, 30] [0, 0, 0, 0, 0, 0, 1] [6] ?_
      (repeat (first | refine gos (k := ?_) | refine fun (_ : _ = false) => ?_ | refine ⟨fun (_ : true = true) => ?_, fun h => absurd h (by decide)⟩ | refine gtr (k := ?_)))
      refine ⟨_, leS_refl _, ?_⟩
      (repeat (first | refine gos (k := ?_) | refine fun (_ : _ = false) => ?_ | refine ⟨fun (_ : true = true) => ?_, fun h => absurd h (by decide)⟩ | refine gtr (k := ?_)))
      have e1 : (i + n).toNat - i.toNat = n.toNat := by omega
      have e2 : ((l.drop i.toNat).take n.toNat).length = n.toNat := by simp; omega
      simp only [FlS.read, if_pos hc, Bool.false_eq_true, if_false, e2]
      rw [Nat.zero_add, e1]
      exact ⟨_, rfl, rfl, rfl, trivial⟩
    · rw [decide_eq_false hc]
      (repeat (first | refine gos (k := ?_) | refine fun (_ : _ = false) => ?_ | refine ⟨fun (_ : true = true) => ?_, fun h => absurd h (by decide)⟩ | refine gtr (k := ?_)))
      refine ⟨_, leS_nil 30 3 (.bytes []) rfl (by decide) rfl (t' := [.any, .any, .any, .any, .any, .any, .own 30 3 1 0 0, .val (.int .i64 1), .any, .any, .any, .any, .any, .any, .any, .any, .any, .any, .any, .any, .any, .any, .any, .any, .any, .any, .any, .any, .any]) ?_, ?_⟩
      · simp [leTn, setD, setL, updH, evA, unA, getA, getL, constA, undefs, deads]
      (repeat (first | refine gos (k := ?_) | refine fun (_ : _ = false) => ?_ | refine ⟨fun (_ : true = true) => ?_, fun h => absurd h (by decide)⟩ | refine gtr (k := ?_)))
      simp only [FlS.read, if_neg hc, Bool.false_eq_true, if_false]
      exact ⟨_, rfl, rfl, rfl, trivial⟩
theorem spec_prog (s : FlS) (hl : s.l.length ≤ 140737488355328) (a : Int) (ha : I64 a) (m : List UInt8) (hm' : m.length ≤ 140737488355328) (hA2 : I64 s.ar) (hA5 : 0 ≤ s.wr ∧ s.wr + m.length < 9223372036854775807) (z : Nat) (v0 v1 : Nat) : Spec Tryd.prog 46 [.ref 0 v0 6 0 0, .val (.int .i64 a), .bs z m] [⟨v0, .obj [.own 1 v1 1 0 s.l.length, .val (.int .i64 (s.k : Int)), .val (.int .i64 s.ar), .val (.int .i64 s.pt), .val (.bool s.dd), .val (.int .i64 s.wr)]⟩, ⟨v1, .bytes s.l⟩]
   (pst (.val (.int .i64 (s.prog a m).1)) [⟨v0, .obj [.own 1 v1 1 0 (s.prog a m).2.l.length, .val (.int .i64 ((s.prog a m).2.k : Int)), .val (.int .i64 (s.prog a m).2.ar), .val (.int .i64 (s.prog a m).2.pt), .val (.bool (s.prog a m).2.dd), .val (.int .i64 (s.prog a m).2.wr)]⟩, ⟨v1, .bytes (s.prog a m).2.l⟩]) := by
  obtain ⟨l, k, ar, pt, dd, wr⟩ := s
  simp only at hl hA2 hA5
  by_cases hc : dd = false ∧ 0 ≤ a ∧ a + m.length ≤ l.length
  · obtain ⟨rfl, hc⟩ := hc
    have := prog_vc a ha m hm' z l hl v0 v1 k ar pt wr hA2 hA5 hc _ rfl
    simp only [FlS.prog, if_pos hc, Bool.false_eq_true, if_false, progF_length]
    exact this
  refine spec_entry tbOk Tryd.func46 rfl Tryd.ntmps46 Tryd.results46 ?_
  (repeat (first | refine gos (k := ?_) | refine fun (_ : _ = false) => ?_ | refine ⟨fun (_ : true = true) => ?_, fun h => absurd h (by decide)⟩ | refine gtr (k := ?_)))
  refine cdet (begin_vc v0 v1 l k ar pt wr dd) Tryd.call45 [0, 1] ?_
  cases dd with
  | true =>
    (repeat (first | refine gos (k := ?_) | refine fun (_ : _ = false) => ?_ | refine ⟨fun (_ : true = true) => ?_, fun h => absurd h (by decide)⟩ | refine gtr (k := ?_)))
    exact ⟨_, rfl, rfl⟩
  | false =>
    have hc' : ¬ (0 ≤ a ∧ a + m.length ≤ l.length) := fun q => hc ⟨rfl, q⟩
    have hc2 : ¬ (0 ≤ a ∧ 0 ≤ (m.length : Int) ∧ a + m.length ≤ l.length) := fun q => hc' ⟨q.1, q.2.2⟩
    (repeat (first | refine gos (k := ?_) | refine fun (_ : _ = false) => ?_ | refine ⟨fun (_ : true = true) => ?_, fun h => absurd h (by decide)⟩ | refine gtr (k := ?_)))
    refine cdet (within_vc a m.length ha ⟨by omega, by omega⟩ l hl v0 v1 k ar pt wr false) Tryd.call59 [0, 1] ?_
    rw [decide_eq_false hc2]
    (repeat (first | refine gos (k := ?_) | refine fun (_ : _ = false) => ?_ | refine ⟨fun (_ : true = true) => ?_, fun h => absurd h (by decide)⟩ | refine gtr (k := ?_)))
    simp only [FlS.prog, if_neg hc', Bool.false_eq_true, if_false]
    exact ⟨_, rfl, rfl⟩
theorem spec_erase (s : FlS) (hl : s.l.length ≤ 140737488355328) (hk : 0 < s.k ∧ s.k ≤ 65536) (x : Int) (hx : I64 x) (hA2 : I64 s.ar) (hA3 : 0 ≤ s.pt ∧ I64 s.pt) (hA5 : 0 ≤ s.wr ∧ s.wr < 9223372036854775807) (v0 v1 : Nat) : Spec Tryd.prog 34 [.ref 0 v0 6 0 0, .val (.int .i64 x)] [⟨v0, .obj [.own 1 v1 1 0 s.l.length, .val (.int .i64 (s.k : Int)), .val (.int .i64 s.ar), .val (.int .i64 s.pt), .val (.bool s.dd), .val (.int .i64 s.wr)]⟩, ⟨v1, .bytes s.l⟩]
   (pst (.val (.int .i64 (s.erase x).1)) [⟨v0, .obj [.own 1 v1 1 0 (s.erase x).2.l.length, .val (.int .i64 ((s.erase x).2.k : Int)), .val (.int .i64 (s.erase x).2.ar), .val (.int .i64 (s.erase x).2.pt), .val (.bool (s.erase x).2.dd), .val (.int .i64 (s.erase x).2.wr)]⟩, ⟨v1, .bytes (s.erase x).2.l⟩]) := by
  obtain ⟨l, k, ar, pt, dd, wr⟩ := s
  simp only at hl hk hA2 hA3 hA5
  by_cases hc : dd = false ∧ 0 ≤ x ∧ x < l.length / (k : Int)
  · obtain ⟨rfl, hc⟩ := hc
    obtain ⟨x', rfl⟩ := Int.eq_ofNat_of_zero_le hc.1
    have hxk : x' * k + k ≤ l.length := by
      have h1 : (x' : Int) + 1 ≤ l.length / (k : Int) := by omega
      have h2 := Int.mul_le_mul_of_nonneg_right h1 (show (0 : Int) ≤ k by omega)
      have h3 : (l.length : Int) / (k : Int) * k ≤ l.length := Int.ediv_mul_le _ (by omega)
      rw [Int.add_mul, Int.one_mul] at h2
      exact_mod_cast Int.le_trans h2 h3
    have := erase_vc x' k l hl hk.1 hxk hc.2 v0 v1 ar pt wr hA2 hA3 hA5 _ rfl
    have e1 : ∀ d : Bool, (if d then fillN l (x' * k) (min pt (k : Int)).toNat else fillN l (x' * k) k).length = l.length := by intro d; cases d <;> simp [fillN_length]
    have e2 : ((x' : Int)).toNat = x' := by omega
    simp only [FlS.erase, if_pos hc, Bool.false_eq_true, if_false, e1, e2, FlS.goes]
    exact this
  refine spec_entry tbOk Tryd.func34 rfl Tryd.ntmps34 Tryd.results34 ?_
  (repeat (first | refine gos (k := ?_) | refine fun (_ : _ = false) => ?_ | refine ⟨fun (_ : true = true) => ?_, fun h => absurd h (by decide)⟩ | refine gtr (k := ?_)))
  refine cdet (begin_vc v0 v1 l k ar pt wr dd) Tryd.call45 [0, 1] ?_
  cases dd with
  | true =>
    (repeat (first | refine gos (k := ?_) | refine fun (_ : _ = false) => ?_ | refine ⟨fun (_ : true = true) => ?_, fun h => absurd h (by decide)⟩ | refine gtr (k := ?_)))
    exact ⟨_, rfl, rfl⟩
  | false =>
    have hc' : ¬ (0 ≤ x ∧ x < l.length / (k : Int)) := fun q => hc ⟨rfl, q⟩
    (repeat (first | refine gos (k := ?_) | refine fun (_ : _ = false) => ?_ | refine ⟨fun (_ : true = true) => ?_, fun h => absurd h (by decide)⟩ | refine gtr (k := ?_)))
    (refine sts (k := ?_))
    by_cases hx0 : x < 0
    · refine And.intro (fun hG => absurd hG (by simp [hx0])) (fun hG => ?_)
      (repeat (first | refine gos (k := ?_) | refine fun (_ : _ = false) => ?_ | refine ⟨fun (_ : true = true) => ?_, fun h => absurd h (by decide)⟩ | refine gtr (k := ?_)))
      simp only [FlS.erase, if_neg hc', Bool.false_eq_true, if_false]
      exact ⟨_, rfl, rfl⟩
    · refine And.intro (fun hG => ?_) (fun hG => absurd (decide_eq_false hx0) hG)
      refine And.intro ?_ ?_
      · dsimp only [gpOs, gpO, gpA, opnds, getA, getL, List.toList_toArray, List.map_cons, List.map_nil, List.cons_append, List.nil_append]
        simp [gpOs, gpO, gpA, hG]
      refine cdet (sectors_vc l hl v0 v1 k ar pt wr false ⟨by omega, by omega, by omega⟩) Tryd.call32 [0, 1] ?_
      (repeat (first | refine gos (k := ?_) | refine fun (_ : _ = false) => ?_ | refine ⟨fun (_ : true = true) => ?_, fun h => absurd h (by decide)⟩ | refine gtr (k := ?_)))
      simp only [FlS.erase, if_neg hc', Bool.false_eq_true, if_false]
      exact ⟨_, rfl, rfl⟩
end Go.Proofs.YtddocchgikaahaaDoor
