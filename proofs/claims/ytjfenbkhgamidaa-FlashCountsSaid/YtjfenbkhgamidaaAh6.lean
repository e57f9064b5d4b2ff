/- The walk of FlashCounts. Conditions: none. -/
import Derived.Test.YtjfenbkhgamidaaAh5
import Derived.Test.YtjfenbkhgamidaaAh3
namespace Go.Proofs.Ytjfenbkhgamidaa
open Go.RowKit
set_option linter.unusedVariables false
set_option linter.unusedSimpArgs false
set_option maxRecDepth 100000
set_option maxHeartbeats 4000000
theorem progF_zero : ∀ (m : List UInt8) (k : Nat) (c : List UInt8) (w : Int), (progF m k c 0 w).1 = 0 ∧ (progF m k c 0 w).2.2.1 = 0 ∧ (progF m k c 0 w).2.2.2.1 = false ∧ (progF m k c 0 w).2.2.2.2 = w + m.length
  | [], _, _, _ => by simp [progF]
  | b :: m, k, c, w => by
    rw [progF, if_neg (by omega), if_neg (by omega)]
    obtain ⟨h1, h2, h3, h4⟩ := progF_zero m (k + 1) (c.set k (c.getD k 0 &&& b)) (w + 1)
    refine ⟨h1, h2, h3, ?_⟩
    rw [h4]; simp only [List.length_cons]; omega
theorem prog_zero (s : FS) (b : List UInt8) (hd : s.dd = false) (hr : s.ar = 0) (hb : b.length ≤ s.l.length) : (s.prog 0 b).1 = 0 ∧ (s.prog 0 b).2.ar = 0 ∧ (s.prog 0 b).2.dd = false ∧ (s.prog 0 b).2.wr = s.wr + b.length := by
  unfold FS.prog
  rw [hd, if_neg (by decide), if_pos (by omega), hr]
  exact progF_zero b _ _ _
theorem erase_zero (s : FS) (x y : Nat) (hl : s.l.length = x * y) (hk : s.k = y) (hx : 0 < x) (hy : 0 < y) (hd : s.dd = false) (hr : s.ar = 0) : (s.erase 0).1 = 0 ∧ (s.erase 0).2.ar = 0 ∧ (s.erase 0).2.dd = false ∧ (s.erase 0).2.wr = s.wr + 1 := by
  have hq : (s.l.length : Int) / (s.k : Int) = x := by
    rw [hl, hk]; push_cast; exact Int.mul_ediv_cancel _ (by omega)
  have hg : s.goes = false := by unfold FS.goes; rw [hr]; rfl
  unfold FS.erase
  rw [hd, if_neg (by decide), hq, if_pos (by omega), hg, hr]
  exact ⟨rfl, rfl, rfl, rfl⟩
theorem read_one (s : FS) (hd : s.dd = false) (hl : 1 ≤ s.l.length) : (s.read 0 1).1 = 0 := by
  unfold FS.read
  rw [hd, if_neg (by decide), if_pos (by omega)]
theorem arm_of (s : FS) (x : Int) (hd : s.dd = false) (hx : 0 ≤ x) : s.arm x 0 = (0, ⟨s.l, s.k, x, 0, false, s.wr⟩) := by
  unfold FS.arm
  rw [hd, if_neg (by decide), if_neg (by omega)]
/-- how the flash counts down -/
def Ctr (n : Nat) (W : Int) (i : Nat) (u : FS) : Prop := if n = 0 then u.dd = false ∧ u.ar = 0 ∧ u.wr = W + i else if i < n then u.dd = false ∧ u.ar = n - i ∧ u.wr = W + i else u.dd = true ∧ u.wr = W + n - 1
theorem Ctr.step {n : Nat} {W : Int} {i : Nat} {u : FS} (h : Ctr n W i u) (hl : 1 ≤ u.l.length) : ((u.prog 0 [1]).1 = 0 ↔ (n = 0 ∨ (i : Int) < n - 1)) ∧ Ctr n W (i + 1) (u.prog 0 [1]).2 := by
  have hin : (0 : Int) ≤ 0 ∧ (0 : Int) + (([1] : List UInt8).length : Int) ≤ u.l.length := by simp; omega
  unfold Ctr at h ⊢
  by_cases hn : n = 0
  · rw [if_pos hn] at h ⊢
    obtain ⟨h1, h2, h3⟩ := prog_zero u [1] h.1 h.2.1 (by simpa using hl)
    refine ⟨by rw [h1]; simp [hn], h3.1, h2, ?_⟩
    rw [h3.2, h.2.2]; simp; omega
  · rw [if_neg hn] at h ⊢
    by_cases hi : i < n
    · rw [if_pos hi] at h
      obtain ⟨h1, h2, h3⟩ := h
      by_cases hi1 : i + 1 < n
      · rw [if_pos hi1]
        unfold FS.prog
        rw [h1, if_neg (by decide), if_pos hin, h2]
        simp only [progF]
        rw [if_neg (by omega), if_pos (by omega)]
        refine ⟨by simp; omega, rfl, ?_, ?_⟩
        · simp only; push_cast; omega
        · simp only; rw [h3]; push_cast; omega
      · rw [if_neg hi1]
        unfold FS.prog
        rw [h1, if_neg (by decide), if_pos hin, h2]
        simp only [progF]
        rw [if_pos (by omega)]
        refine ⟨by simp; omega, rfl, ?_⟩
        simp only; rw [h3]; omega
    · rw [if_neg hi] at h
      rw [if_neg (by omega)]
      have e : u.prog 0 [1] = (6, u) := by
        unfold FS.prog
        rw [h.1, if_pos rfl]
      rw [e]
      refine ⟨by simp; omega, h⟩
theorem Ctr.end {n : Nat} {W : Int} {u : FS} (hn : n ≤ 255) (h : Ctr n W 300 u) : u.wr = W + (if n = 0 then 300 else (n : Int) - 1) := by
  unfold Ctr at h
  by_cases q : n = 0
  · rw [if_pos q] at h ⊢; exact h.2.2
  · rw [if_neg q, if_neg (by omega)] at h
    rw [if_neg q]
    have := h.2
    omega
theorem op_on (n : Nat) (a : OpR) : onAs (· < n) (opA a) := by simp [opA, onAs, onA]
theorem op_on2 (a : OpR) : onAs (fun r => inB 1 [] r = true) (opA a) := by simp [opA, onAs, onA]
structure CS where
  i : Nat
  u : FS
  e : Nat
def couI (w : Int) (b : List UInt8) (n : UInt8) (z : CS) : St := ⟨[.any, .any, .any, .bs 0 b, .val (.int .u8 n.toNat), .any, .any, .any, .any, .any, .any, .ref 34 3 6 0 0, .val (.int .i64 w), .any, .any, .any, .any, .val (.int .i64 z.i), .any, .any, .any, .any, .any, .any, .any, .any, .any, .any, .any, .any, .any, .any, .any, .any, .any, .any, .any, .any, .any, .any, .any, .any, .any, .any, .any, .any, .any, .any, .any, .any, .any, .any, .any, .any, .any, .any, .any, .any, .any, .any, .any, .any, .any, .any, .any, .any, .any, .any, .any, .any, .any, .any, .any, .any, .any, .any, .any, .any, .any, .any, .any, .any, .any, .any, .any, .any, .any, .any, .any, .any, .any, .any, .any, .any, .any, .any, .any, .any, .any, .any, .any, .any, .any, .any, .any, .any, .any, .any, .any, .any, .any, .any, .any, .any, .any, .any, .any, .any, .any, .any, .any, .any, .any], [⟨0, .dead⟩, ⟨0, .dead⟩, ⟨0, .dead⟩, ⟨0, .dead⟩, ⟨0, .dead⟩, ⟨0, .dead⟩, ⟨0, .dead⟩, ⟨0, .dead⟩, ⟨0, .dead⟩, ⟨0, .dead⟩, ⟨0, .dead⟩, ⟨4, .bytes z.u.l⟩, ⟨0, .dead⟩, ⟨0, .dead⟩, ⟨0, .dead⟩, ⟨0, .dead⟩, ⟨0, .dead⟩, ⟨0, .dead⟩, ⟨0, .dead⟩, ⟨0, .dead⟩, ⟨0, .dead⟩, ⟨0, .dead⟩, ⟨3, .dead⟩, ⟨0, .dead⟩, ⟨0, .dead⟩, ⟨0, .dead⟩, ⟨0, .dead⟩, ⟨1, .dead⟩, ⟨0, .dead⟩, ⟨0, .dead⟩, ⟨0, .dead⟩, ⟨0, .dead⟩, ⟨0, .dead⟩, ⟨0, .dead⟩, ⟨3, .obj [.own 11 4 1 0 z.u.l.length, .val (.int .i64 (z.u.k : Int)), .val (.int .i64 z.u.ar), .val (.int .i64 z.u.pt), .val (.bool z.u.dd), .val (.int .i64 z.u.wr)]⟩, ⟨0, .dead⟩, ⟨0, .dead⟩, ⟨0, .dead⟩, ⟨0, .dead⟩, ⟨0, .dead⟩, ⟨0, .dead⟩, ⟨0, .dead⟩, ⟨0, .dead⟩, ⟨0, .dead⟩, ⟨0, .dead⟩, ⟨0, .dead⟩, ⟨0, .dead⟩, ⟨0, .dead⟩, ⟨0, .dead⟩, ⟨0, .dead⟩, ⟨4, .dead⟩, ⟨0, .dead⟩, ⟨0, .dead⟩, ⟨0, .dead⟩, ⟨0, .dead⟩, ⟨3, .dead⟩, ⟨0, .dead⟩, ⟨0, .dead⟩, ⟨0, .dead⟩, ⟨0, .dead⟩, ⟨0, .dead⟩, ⟨0, .dead⟩, ⟨0, .dead⟩, ⟨0, .dead⟩, ⟨0, .dead⟩, ⟨0, .dead⟩, ⟨0, .dead⟩, ⟨0, .dead⟩, ⟨0, .dead⟩, ⟨0, .dead⟩, ⟨0, .dead⟩, ⟨0, .dead⟩, ⟨0, .dead⟩, ⟨0, .dead⟩, ⟨0, .dead⟩, ⟨0, .dead⟩, ⟨0, .dead⟩, ⟨0, .dead⟩, ⟨0, .dead⟩, ⟨0, .dead⟩, ⟨0, .dead⟩, ⟨0, .dead⟩, ⟨0, .dead⟩, ⟨0, .dead⟩, ⟨0, .dead⟩, ⟨0, .dead⟩, ⟨0, .dead⟩, ⟨0, .dead⟩, ⟨0, .dead⟩, ⟨0, .dead⟩, ⟨0, .dead⟩, ⟨z.e, .dead⟩, ⟨0, .dead⟩, ⟨0, .dead⟩, ⟨0, .dead⟩, ⟨0, .dead⟩, ⟨0, .dead⟩, ⟨0, .dead⟩, ⟨0, .dead⟩, ⟨0, .dead⟩, ⟨0, .dead⟩, ⟨0, .dead⟩, ⟨0, .dead⟩, ⟨0, .dead⟩, ⟨0, .dead⟩, ⟨0, .dead⟩, ⟨0, .dead⟩, ⟨0, .dead⟩, ⟨0, .dead⟩, ⟨0, .dead⟩, ⟨0, .dead⟩, ⟨0, .dead⟩, ⟨0, .dead⟩, ⟨0, .dead⟩, ⟨0, .dead⟩, ⟨0, .dead⟩, ⟨0, .dead⟩, ⟨0, .dead⟩, ⟨0, .dead⟩, ⟨0, .dead⟩, ⟨0, .dead⟩, ⟨0, .dead⟩, ⟨0, .dead⟩]⟩
theorem counts_vc (x y : Int) (hx : I64 x) (hy : I64 y) (l : List OpR) (hl : ∀ o ∈ l, OpOk o) (hll : l.length * 48 ≤ 140737488351232) (b : List UInt8) (hb : b.length ≤ 9223372036854775807) (n : UInt8) : Spec Try.prog 3 [.val (.int .i64 x), .val (.int .i64 y), .sl 0 4 opA ⟨0, 0, 0, []⟩ l, .bs 0 b, .val (.int .u8 n.toNat)] [] (pms (.val (.bool true)) [] []) := by
  refine spec_entry tbOk Try.func3 rfl Try.ntmps3 Try.results3 ?_
  (repeat (first | refine gos (k := ?_) | refine fun (_ : _ = false) => ?_ | refine ⟨fun (_ : true = true) => ?_, fun h => absurd h (by decide)⟩ | refine gtr (k := ?_)))
  (refine sts (k := ?_))
  refine ⟨OpR, opA, ⟨0, 0, 0, []⟩, l, ?_⟩
  refine And.intro ?_ ?_
  · refine ⟨rfl, fun x hx => ?_, rfl, rfl, rfl, rfl, .inr rfl, rfl, ?_, ?_⟩
    · simp [opA, onesA, oneA, Value.oneCell']
    · omega
    · decide
  (repeat (first | refine gos (k := ?_) | refine fun (_ : _ = false) => ?_ | refine ⟨fun (_ : true = true) => ?_, fun h => absurd h (by decide)⟩ | refine gtr (k := ?_)))
  (refine sts (k := ?_))
  refine ⟨OpR, opA, ⟨0, 0, 0, []⟩, l ++ [⟨0, 0, 0, b⟩], ?_⟩
  refine And.intro ?_ ?_
  · (repeat' apply And.intro)
    all_goals first | exact rfl | decide | exact .inr rfl | (rw [List.map_append]; exact rfl) | (simp only [List.length_append, List.length_cons, List.length_nil]; omega) | skip
    intro i hi
    obtain rfl : i = 0 := by simpa using hi
    simp [onesA, oneA, zerosA, takeL, dropL, Value.oneCell']
  (repeat (first | refine gos (k := ?_) | refine fun (_ : _ = false) => ?_ | refine ⟨fun (_ : true = true) => ?_, fun h => absurd h (by decide)⟩ | refine gtr (k := ?_)))
  refine cmks (vast_own x y hx hy (l ++ [⟨0, 0, 0, b⟩]) (by simp; omega) 3) Try.call6 (hrows := ⟨⟨op_on 1, rfl⟩, trivial⟩) (hr2 := ⟨op_on2, trivial⟩) 1 [22] [0] [] ?_
  cases hv : vastF x y (l ++ [⟨0, 0, 0, b⟩]) with
  | true =>
    (repeat (first | refine gos (k := ?_) | refine fun (_ : _ = false) => ?_ | refine ⟨fun (_ : true = true) => ?_, fun h => absurd h (by decide)⟩ | refine gtr (k := ?_)))
    refine cmks (works_vc) Try.call7 0 [] [] [] ?_
    (repeat (first | refine gos (k := ?_) | refine fun (_ : _ = false) => ?_ | refine ⟨fun (_ : true = true) => ?_, fun h => absurd h (by decide)⟩ | refine gtr (k := ?_)))
    exact ⟨_, rfl, rfl, trivial⟩
  | false =>
    obtain ⟨hfL, hx2, hy2⟩ := few_of (fun o ho => by
      rcases List.mem_append.1 ho with ho | ho
      · exact hl o ho
      · rw [List.mem_singleton.1 ho]
        exact ⟨by simp [I64], by simp [I64], by simp [I64], by simp only [maxLen]; omega⟩) hv
    have hf : Few l := ⟨hl, by have := hfL.n; simp at this; omega, fun o ho => hfL.b o (List.mem_append_left _ ho)⟩
    have hb2 : b.length ≤ 32768 := hfL.b ⟨0, 0, 0, b⟩ (List.mem_append_right _ (List.mem_singleton.2 rfl))
    by_cases hg : 1 ≤ x ∧ x ≤ 64 ∧ 16 ≤ y ∧ y ≤ 65536
    · obtain ⟨x, rfl⟩ := Int.eq_ofNat_of_zero_le (show 0 ≤ x by omega)
      obtain ⟨y, rfl⟩ := Int.eq_ofNat_of_zero_le (show 0 ≤ y by omega)
      have h1 : 1 ≤ x ∧ x ≤ 64 := by omega
      have h2 : 16 ≤ y ∧ y ≤ 65536 := by omega
      have hP : (x : Int) * (y : Int) = ((x * y : Nat) : Int) := by push_cast; rfl
      have hP3 : x * y ≤ 131072 := Nat.le_trans (Nat.mul_le_mul h1.2 (show y ≤ 2048 by omega)) (by decide)
      have hP4 : 16 ≤ x * y := Nat.le_trans (by decide) (Nat.mul_le_mul h1.1 h2.1)
      (repeat (first | refine gos (k := ?_) | refine fun (_ : _ = false) => ?_ | refine ⟨fun (_ : true = true) => ?_, fun h => absurd h (by decide)⟩ | refine gtr (k := ?_)))
      refine cmks (behind_vc x y h1 h2 l hf) Try.call8 (hon := ⟨trivial, trivial, op_on 0, trivial⟩) 0 [0, 0, 0, 0, 0, 0, 0, 11, 34] [0, 0, 0, 0, 0, 0, 0, 1, 1] [8, 7] ?_
      obtain ⟨hG, hd, hr⟩ := behind_facts x y h1 h2 l hf
      generalize FS.behind x y l = s at hG hd hr
      (repeat (first | refine gos (k := ?_) | refine fun (_ : _ = false) => ?_ | refine ⟨fun (_ : true = true) => ?_, fun h => absurd h (by decide)⟩ | refine gtr (k := ?_)))
      refine And.intro (fun h => ?_) (fun h => ?_)
      · (repeat (first | refine gos (k := ?_) | refine fun (_ : _ = false) => ?_ | refine ⟨fun (_ : true = true) => ?_, fun h => absurd h (by decide)⟩ | refine gtr (k := ?_)))
        refine cmks (works_vc) Try.call7 0 [] [] [] ?_
        (repeat (first | refine gos (k := ?_) | refine fun (_ : _ = false) => ?_ | refine ⟨fun (_ : true = true) => ?_, fun h => absurd h (by decide)⟩ | refine gtr (k := ?_)))
        exact ⟨_, rfl, rfl, trivial⟩
      have hbl : b.length ≤ s.l.length := by
        rw [hG.l]
        simp only [Bool.false_or, decide_eq_false_iff_not] at h
        omega
      have hls := hG.l
      (repeat (first | refine gos (k := ?_) | refine fun (_ : _ = false) => ?_ | refine ⟨fun (_ : true = true) => ?_, fun h => absurd h (by decide)⟩ | refine gtr (k := ?_)))
      refine cdet (spec_writes s 3 4) Try.call9 [34, 11] ?_
      (repeat (first | refine gos (k := ?_) | refine fun (_ : _ = false) => ?_ | refine ⟨fun (_ : true = true) => ?_, fun h => absurd h (by decide)⟩ | refine gtr (k := ?_)))
      refine cmks (spec_read s (by have := hG.ok.len; omega) 0 1 (by unfold I64; decide) (by unfold I64; decide) 3 4) Try.call10 2 [34, 11, 0, 0, 0, 0, 0, 0, 0, 0, 0, 0, 0, 0, 0, 0, 0, 0, 0, 0, 0, 0, 0, 0, 0, 0, 0, 0, 0, 0, 50] [0, 0, 0, 0, 0, 0, 0, 0, 0, 0, 0, 0, 0, 0, 0, 0, 0, 0, 0, 0, 0, 0, 0, 0, 0, 0, 0, 0, 0, 0, 1] [30] ?_
      rw [read_one s hd (by omega)]
      (repeat (first | refine gos (k := ?_) | refine fun (_ : _ = false) => ?_ | refine ⟨fun (_ : true = true) => ?_, fun h => absurd h (by decide)⟩ | refine gtr (k := ?_)))
      refine cmks (twin_vc 0 b (by omega)) Try.call12 0 [0, 0, 0, 55] [0, 0, 0, 1] [3] ?_
      (repeat (first | refine gos (k := ?_) | refine fun (_ : _ = false) => ?_ | refine ⟨fun (_ : true = true) => ?_, fun h => absurd h (by decide)⟩ | refine gtr (k := ?_)))
      refine cmks (prog_own s (by have := hG.ok.len; omega) 0 (by unfold I64; decide) b (by omega) hG.ok.ar ⟨hG.ok.wr.1, by have := hG.ok.wr.2; omega⟩ 3 4 3) Try.call11 3 [34, 11, 55] [0, 0, 0] [] ?_
      obtain ⟨p1, p2, p3, p4⟩ := prog_zero s b hd hr hbl
      have hG1 := hG.prog 0 b
      rw [p1]
      generalize (s.prog 0 b).2 = s1 at p2 p3 p4 hG1
      (repeat (first | refine gos (k := ?_) | refine fun (_ : _ = false) => ?_ | refine ⟨fun (_ : true = true) => ?_, fun h => absurd h (by decide)⟩ | refine gtr (k := ?_)))
      refine cdet (spec_erase s1 (by have := hG1.ok.len; omega) hG1.ok.k 0 (by unfold I64; decide) hG1.ok.ar hG1.ok.pt ⟨hG1.ok.wr.1, by have := hG1.ok.wr.2; omega⟩ 3 4) Try.call13 [34, 11] ?_
      obtain ⟨r1, r2, r3, r4⟩ := erase_zero s1 x y hG1.l hG1.k (by omega) (by omega) p3 p2
      have hG2 := hG1.erase 0
      rw [r1]
      generalize (s1.erase 0).2 = s2 at r2 r3 r4 hG2
      (repeat (first | refine gos (k := ?_) | refine fun (_ : _ = false) => ?_ | refine ⟨fun (_ : true = true) => ?_, fun h => absurd h (by decide)⟩ | refine gtr (k := ?_)))
      (try (refine sts (k := ?_); refine gcl (k := ?_)))
      refine cdet (spec_writes s2 3 4) Try.call9 [34, 11] ?_
      have hw : s2.wr = s.wr + b.length + 1 := by omega
      have hwr := hG.ok.wr
      have hn : n.toNat ≤ 255 := by have := n.toNat_lt; omega
      (repeat (first | refine gos (k := ?_) | refine fun (_ : _ = false) => ?_ | refine ⟨fun (_ : true = true) => ?_, fun h => absurd h (by decide)⟩ | refine gtr (k := ?_)))
      (refine sts (k := ?_))
      refine gcl (hq := by simp [hw]) (k := ?_)
      refine cdet (spec_arm s2 n.toNat 0 (by unfold I64; omega) (by unfold I64; decide) 3 4) Try.call14 [34, 11] ?_
      have hG3 := hG2.arm n.toNat 0 (by unfold I64; omega) (by unfold I64; decide)
      rw [arm_of s2 n.toNat r3 (by omega)] at hG3 ⊢
      have hC : Ctr n.toNat s2.wr 0 ⟨s2.l, s2.k, n.toNat, 0, false, s2.wr⟩ := by
        unfold Ctr
        split
        · exact ⟨rfl, by simp only; omega, by simp⟩
        · rw [if_pos (by omega)]; exact ⟨rfl, by simp, by simp⟩
      (repeat (first | refine gos (k := ?_) | refine fun (_ : _ = false) => ?_ | refine ⟨fun (_ : true = true) => ?_, fun h => absurd h (by decide)⟩ | refine gtr (k := ?_)))
      refine And.intro (fun h => absurd h (by simp [hw])) (fun _ => ?_)
      obtain ⟨W, hW⟩ : ∃ W : Int, W = s2.wr := ⟨_, rfl⟩
      obtain ⟨B, hB⟩ : ∃ B : Int, B = 4915350 + b.length + 1 := ⟨_, rfl⟩
      have hBb : B ≤ 5000000 := by omega
      rw [← hB] at hG3
      obtain ⟨u0, hu0⟩ : ∃ u0 : FS, u0 = ⟨s2.l, s2.k, n.toNat, 0, false, s2.wr⟩ := ⟨_, rfl⟩
      simp only at hG3
      rw [← hu0, ← hW] at hC
      rw [← hu0] at hG3
      (repeat (first | refine gos (k := ?_) | refine fun (_ : _ = false) => ?_ | refine ⟨fun (_ : true = true) => ?_, fun h => absurd h (by decide)⟩ | refine gtr (k := ?_)))
      (refine sts (k := ?_))
      (refine sts (k := ?_))
      refine loop_of (σ := {z : CS // z.i ≤ 300 ∧ Goes (B + z.i) (x * y) y z.u ∧ Ctr n.toNat W z.i z.u}) (fun z => couI s.wr b n z.1) (fun z => 300 - z.1.i) ⟨⟨0, u0, 0⟩, by simp, by simpa using hG3, hC⟩ ?_ ?_ ?_
      · subst hu0
        simp [couI, leT, setD, setL, updH, evA, unA, getA, getL, constA, undefs, deads]
      · subst hu0
        simp [couI, leH, setD, setL, updH, evA, unA, getA, getL, constA, undefs, deads]
      · rintro ⟨⟨i, u, e⟩, i1, gu, cu⟩
        simp only at i1 gu cu
        dsimp only [couI]
        (repeat (first | refine gos (k := ?_) | refine fun (_ : _ = false) => ?_ | refine ⟨fun (_ : true = true) => ?_, fun h => absurd h (by decide)⟩ | refine gtr (k := ?_)))
        refine And.intro (fun h => ?_) (fun h => ?_)
        · have hlt : i < 300 := by have := of_decide_eq_true h; omega
          (repeat (first | refine gos (k := ?_) | refine fun (_ : _ = false) => ?_ | refine ⟨fun (_ : true = true) => ?_, fun h => absurd h (by decide)⟩ | refine gtr (k := ?_)))
          have gwr := gu.ok.wr
          have hul := gu.l
          refine cmks (prog_own u (by have := gu.ok.len; omega) 0 (by unfold I64; decide) [1] (by decide) gu.ok.ar ⟨gwr.1, by simp; omega⟩ 3 4 (e + 1)) Try.call11 3 [34, 11, 91] [0, 0, 0] [] ?_
          obtain ⟨q1, q2⟩ := cu.step (by omega)
          have hG4 := gu.prog 0 [1]
          generalize u.prog 0 [1] = r at q1 q2 hG4
          (repeat (first | refine gos (k := ?_) | refine fun (_ : _ = false) => ?_ | refine ⟨fun (_ : true = true) => ?_, fun h => absurd h (by decide)⟩ | refine gtr (k := ?_)))
          have hdec : decide (r.1 = 0) = (decide ((n.toNat : Int) = 0) || decide ((i : Int) < (n.toNat : Int) - 1)) := by
            rw [Bool.eq_iff_iff]
            simp only [decide_eq_true_eq, Bool.or_eq_true, q1]
            omega
          refine And.intro (fun h => absurd h (by rw [hdec]; simp)) (fun _ => ?_)
          (repeat (first | refine gos (k := ?_) | refine fun (_ : _ = false) => ?_ | refine ⟨fun (_ : true = true) => ?_, fun h => absurd h (by decide)⟩ | refine gtr (k := ?_)))
          (refine sts (k := ?_))
          refine ⟨⟨⟨i + 1, r.2, e + 1⟩, hlt, ?_, q2⟩, leS_of ?_ ?_, ?_⟩
          · refine hG4.mono ?_
            simp; omega
          · simp [couI, leT, setD, setL, updH, evA, unA, getA, getL, constA, undefs, deads]
          · simp [couI, leH, setD, setL, updH, evA, unA, getA, getL, constA, undefs, deads]
          · show 300 - (i + 1) < 300 - i
            omega
        · have hlt : i = 300 := by have := of_decide_eq_false h; omega
          subst hlt
          have hend := cu.end hn
          (repeat (first | refine gos (k := ?_) | refine fun (_ : _ = false) => ?_ | refine ⟨fun (_ : true = true) => ?_, fun h => absurd h (by decide)⟩ | refine gtr (k := ?_)))
          refine And.intro (fun h => ?_) (fun h => ?_)
          · have hn0 : n.toNat ≠ 0 := by have := of_decide_eq_true h; omega
            rw [if_neg hn0] at hend
            (repeat (first | refine gos (k := ?_) | refine fun (_ : _ = false) => ?_ | refine ⟨fun (_ : true = true) => ?_, fun h => absurd h (by decide)⟩ | refine gtr (k := ?_)))
            refine cdet (spec_writes u 3 4) Try.call9 [34, 11] ?_
            rw [show u.wr = s.wr + b.length + 1 + (n.toNat - 1) by omega]
            (repeat (first | refine gos (k := ?_) | refine fun (_ : _ = false) => ?_ | refine ⟨fun (_ : true = true) => ?_, fun h => absurd h (by decide)⟩ | refine gtr (k := ?_)))
            (refine sts (k := ?_))
            refine gcl (hq := by first | exact decide_eq_true rfl | (simp; done)) (k := ?_)
            refine cmks (works_vc) Try.call7 0 [] [] [] ?_
            (repeat (first | refine gos (k := ?_) | refine fun (_ : _ = false) => ?_ | refine ⟨fun (_ : true = true) => ?_, fun h => absurd h (by decide)⟩ | refine gtr (k := ?_)))
            exact ⟨_, congrArg AV.val (congrArg Value.bool (by simp)), rfl, trivial⟩
          · have hn0 : n.toNat = 0 := by have := of_decide_eq_false h; omega
            rw [if_pos hn0] at hend
            (repeat (first | refine gos (k := ?_) | refine fun (_ : _ = false) => ?_ | refine ⟨fun (_ : true = true) => ?_, fun h => absurd h (by decide)⟩ | refine gtr (k := ?_)))
            refine cdet (spec_writes u 3 4) Try.call9 [34, 11] ?_
            rw [show u.wr = s.wr + b.length + 1 + 300 by omega]
            (repeat (first | refine gos (k := ?_) | refine fun (_ : _ = false) => ?_ | refine ⟨fun (_ : true = true) => ?_, fun h => absurd h (by decide)⟩ | refine gtr (k := ?_)))
            (refine sts (k := ?_))
            refine gcl (hq := by first | exact decide_eq_true rfl | (simp; done)) (k := ?_)
            refine cmks (works_vc) Try.call7 0 [] [] [] ?_
            (repeat (first | refine gos (k := ?_) | refine fun (_ : _ = false) => ?_ | refine ⟨fun (_ : true = true) => ?_, fun h => absurd h (by decide)⟩ | refine gtr (k := ?_)))
            exact ⟨_, congrArg AV.val (congrArg Value.bool (by simp)), rfl, trivial⟩
    · (repeat (first | refine gos (k := ?_) | refine fun (_ : _ = false) => ?_ | refine ⟨fun (_ : true = true) => ?_, fun h => absurd h (by decide)⟩ | refine gtr (k := ?_)))
      refine cmks (behind_bad x y hx hy hg l) Try.call8 (hon := ⟨trivial, trivial, op_on 0, trivial⟩) 0 [] [] [] ?_
      (repeat (first | refine gos (k := ?_) | refine fun (_ : _ = false) => ?_ | refine ⟨fun (_ : true = true) => ?_, fun h => absurd h (by decide)⟩ | refine gtr (k := ?_)))
      refine And.intro (fun _ => ?_) (fun h => absurd h (by simp))
      (repeat (first | refine gos (k := ?_) | refine fun (_ : _ = false) => ?_ | refine ⟨fun (_ : true = true) => ?_, fun h => absurd h (by decide)⟩ | refine gtr (k := ?_)))
      refine cmks (works_vc) Try.call7 0 [] [] [] ?_
      (repeat (first | refine gos (k := ?_) | refine fun (_ : _ = false) => ?_ | refine ⟨fun (_ : true = true) => ?_, fun h => absurd h (by decide)⟩ | refine gtr (k := ?_)))
      exact ⟨_, rfl, rfl, trivial⟩
end Go.Proofs.Ytjfenbkhgamidaa
