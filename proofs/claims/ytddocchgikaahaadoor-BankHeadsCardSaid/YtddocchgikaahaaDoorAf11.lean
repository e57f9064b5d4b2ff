/- Walks of bytes.Repeat of one byte. Conditions: none. -/
import Derived.Test.YtddocchgikaahaaDoorAw
import Derived.Test.YtddocchgikaahaaDoorAc
import Derived.Test.YtddocchgikaahaaDoorAf1
namespace Go.Proofs.YtddocchgikaahaaDoor
open Go.RowKit
set_option linter.unusedVariables false
set_option linter.unusedSimpArgs false
set_option maxRecDepth 100000
theorem and32 (a : Nat) : a &&& 4294967295 = a % 4294967296 := Nat.and_two_pow_sub_one_eq_mod a 32
theorem mul64_vc (n : Int) (h0 : 0 ≤ n) (h1 : n ≤ 9223372036854775807) : Spec Tryd.prog 62 [.val (.int .u64 1), .val (.int .u64 n)] [] (pms (.tup [.val (.int .u64 0), .val (.int .u64 n)]) [] []) := by
  refine spec_entry tbOk Tryd.func62 rfl Tryd.ntmps62 Tryd.results62 ?_
  repeat (refine gos (k := ?_))
  have e1 : (2 : Int) ^ Int.toNat 32 = 4294967296 := by decide
  have e2 : Int.toNat 4294967295 = 4294967295 := rfl
  have e3 : Int.toNat 1 = 1 := rfl
  simp only [e1, e2, e3, and32, Int.toNat_natCast]
  refine ⟨_, congrArg AV.tup (congr (congrArg _ (congrArg AV.val (congrArg (Value.int .u64) ?_))) (congrArg (fun x => [AV.val (.int .u64 x)]) ?_)), rfl, trivial⟩
  · omega
  · omega
theorem mul_vc (n : Int) (h0 : 0 ≤ n) (h1 : n ≤ 9223372036854775807) : Spec Tryd.prog 47 [.val (.int .u64 1), .val (.int .u64 n)] [] (pms (.tup [.val (.int .u64 0), .val (.int .u64 n)]) [] []) := by
  refine spec_entry tbOk Tryd.func47 rfl Tryd.ntmps47 Tryd.results47 ?_
  (repeat (first | refine gos (k := ?_) | refine fun (_ : _ = false) => ?_ | refine ⟨fun (_ : true = true) => ?_, fun h => absurd h (by decide)⟩ | refine gtr (k := ?_)))
  refine cmks (mul64_vc n h0 h1) Tryd.call62 0 [] [] [] ?_
  (repeat (first | refine gos (k := ?_) | refine fun (_ : _ = false) => ?_ | refine ⟨fun (_ : true = true) => ?_, fun h => absurd h (by decide)⟩ | refine gtr (k := ?_)))
  exact ⟨_, rfl, rfl, trivial⟩
structure RS where
  bp : Nat
  c : List UInt8
def repI (n : Nat) (ch : Int) (y : RS) : St := ⟨[.any, .any, .any, .any, .any, .any, .any, .val (.int .i64 n), .val (.int .i64 ch), .own 54 1 1 0 n, .val (.int .i64 y.bp), .any, .any, .any, .any, .any, .any, .any, .any, .any, .any, .any, .any, .any, .any, .any, .any, .any, .any, .any, .any, .any, .any, .any, .any, .any, .any, .any, .any, .any, .any, .any, .any, .any, .any, .any, .any, .any, .any, .any, .any, .any, .any, .any, .any, .any, .any, .any, .any, .any, .any, .any, .any, .any, .any, .any, .any, .any, .any, .any, .any, .any, .any, .any, .any, .any, .any], [⟨0, .dead⟩, ⟨0, .dead⟩, ⟨0, .dead⟩, ⟨0, .dead⟩, ⟨0, .dead⟩, ⟨0, .dead⟩, ⟨0, .dead⟩, ⟨0, .dead⟩, ⟨0, .dead⟩, ⟨0, .dead⟩, ⟨0, .dead⟩, ⟨0, .dead⟩, ⟨0, .dead⟩, ⟨0, .dead⟩, ⟨0, .dead⟩, ⟨0, .dead⟩, ⟨0, .dead⟩, ⟨0, .dead⟩, ⟨0, .dead⟩, ⟨0, .dead⟩, ⟨0, .dead⟩, ⟨0, .dead⟩, ⟨0, .dead⟩, ⟨0, .dead⟩, ⟨0, .dead⟩, ⟨0, .dead⟩, ⟨0, .dead⟩, ⟨0, .dead⟩, ⟨0, .dead⟩, ⟨0, .dead⟩, ⟨0, .dead⟩, ⟨0, .dead⟩, ⟨0, .dead⟩, ⟨0, .dead⟩, ⟨0, .dead⟩, ⟨0, .dead⟩, ⟨0, .dead⟩, ⟨0, .dead⟩, ⟨0, .dead⟩, ⟨0, .dead⟩, ⟨0, .dead⟩, ⟨0, .dead⟩, ⟨0, .dead⟩, ⟨0, .dead⟩, ⟨0, .dead⟩, ⟨0, .dead⟩, ⟨0, .dead⟩, ⟨0, .dead⟩, ⟨0, .dead⟩, ⟨0, .dead⟩, ⟨0, .dead⟩, ⟨0, .dead⟩, ⟨0, .dead⟩, ⟨0, .dead⟩, ⟨1, .bytes y.c⟩, ⟨0, .dead⟩, ⟨0, .dead⟩, ⟨0, .dead⟩, ⟨0, .dead⟩, ⟨0, .dead⟩, ⟨0, .dead⟩, ⟨0, .dead⟩, ⟨0, .dead⟩, ⟨0, .dead⟩, ⟨0, .dead⟩, ⟨0, .dead⟩, ⟨0, .dead⟩, ⟨0, .dead⟩, ⟨0, .dead⟩, ⟨0, .dead⟩, ⟨0, .dead⟩, ⟨0, .dead⟩, ⟨0, .dead⟩, ⟨0, .dead⟩, ⟨0, .dead⟩, ⟨0, .dead⟩, ⟨0, .dead⟩]⟩
theorem repeat_vc (z : Nat) (b : UInt8) (n : Nat) (h0 : 0 < n) (h1 : n ≤ 4194304) : Spec Tryd.prog 31 [.bs z [b], .val (.int .i64 n)] [] (pms (.own 54 1 1 0 n) [] [(54, ⟨1, .bytes (List.replicate n b)⟩)]) := by
  refine spec_entry tbOk Tryd.func31 rfl Tryd.ntmps31 Tryd.results31 ?_
  (repeat (first | refine gos (k := ?_) | refine fun (_ : _ = false) => ?_ | refine ⟨fun (_ : true = true) => ?_, fun h => absurd h (by decide)⟩ | refine gtr (k := ?_)))
  have hn : (n : Int) % 18446744073709551616 = n := by omega
  rw [hn]
  refine cmks (mul_vc n (by omega) (by omega)) Tryd.call47 0 [] [] [] ?_
  (repeat (first | refine gos (k := ?_) | refine fun (_ : _ = false) => ?_ | refine ⟨fun (_ : true = true) => ?_, fun h => absurd h (by decide)⟩ | refine gtr (k := ?_)))
  refine And.intro (fun hbig => ?_) (fun hbig => ?_)
  · (repeat (first | refine gos (k := ?_) | refine fun (_ : _ = false) => ?_ | refine ⟨fun (_ : true = true) => ?_, fun h => absurd h (by decide)⟩ | refine gtr (k := ?_)))
    refine call_mnz Tryd.func48 (by kernel_rfl) (by kernel_rfl) (by kernel_rfl) (ps := #[3]) (t := 36) (e := 5) (by kernel_rfl) Tryd.underlying36 n (by omega) rfl 54 (en := ⟨0, .dead⟩) rfl ?_
    intro c0 hc0
    (repeat (first | refine gos (k := ?_) | refine fun (_ : _ = false) => ?_ | refine ⟨fun (_ : true = true) => ?_, fun h => absurd h (by decide)⟩ | refine gtr (k := ?_)))
    (refine sts (k := ?_))
    (refine sts (k := ?_))
    have hmin : min n 1 = 1 := by omega
    refine loop_of (σ := {y : RS // y.c.length = n ∧ 1 ≤ y.bp ∧ y.bp ≤ n ∧ y.c.take y.bp = List.replicate y.bp b}) (fun y => repI n (8192) y.1) (fun y => n - y.1.bp) ⟨⟨1, b :: c0.drop 1⟩, by simp; omega, Nat.le_refl _, h0, rfl⟩ ?_ ?_ ?_
    · simp [repI, leT, setD, setL, updH, evA, unA, getA, getL, constA, undefs, deads, hmin]
    · simp [repI, leH, setD, setL, updH, evA, unA, getA, getL, constA, undefs, deads, hmin]
    · rintro ⟨⟨bp, c⟩, i1, i2, i3, i4⟩
      simp only at i1 i2 i3 i4
      dsimp only [repI]
      repeat (refine gos (k := ?_))
      refine And.intro (fun h => ?_) (fun h => ?_)
      · have hlt : bp < n := by have := of_decide_eq_true h; omega
        (repeat (first | refine gos (k := ?_) | refine fun (_ : _ = false) => ?_ | refine ⟨fun (_ : true = true) => ?_, fun h => absurd h (by decide)⟩ | refine gtr (k := ?_)))
        refine draw_of (p := 0) tbOk hm [0, 0, 0, 6, 0, 0, 48, 126, 255, 511] [⟨0, false, false, []⟩, ⟨1, false, false, []⟩, ⟨2, false, false, []⟩, ⟨3, true, false, [67, 71, 72, 73, 74, 75, 10]⟩, ⟨4, false, false, []⟩, ⟨5, false, false, []⟩, ⟨6, true, false, [67, 68, 69, 70, 74, 75, 10]⟩, ⟨7, true, true, [67, 75, 10]⟩, ⟨8, false, false, []⟩, ⟨9, false, false, []⟩] (by kernel_rfl) ?_
        (repeat (first | refine gos (k := ?_) | refine fun (_ : _ = false) => ?_ | refine ⟨fun (_ : true = true) => ?_, fun h => absurd h (by decide)⟩ | refine gtr (k := ?_)))
        (refine sts (k := ?_))
        obtain ⟨M, hM⟩ : ∃ M, M = (min (bp : Int) (8192)).toNat := ⟨_, rfl⟩
        obtain ⟨k, hk⟩ : ∃ k, k = min (n - bp) M := ⟨_, rfl⟩
        have hM1 : 1 ≤ M ∧ M ≤ bp := by omega
        have e1 : (c.take M).take k = List.replicate k b := by
          rw [List.take_take, show min k M = min k bp by omega, ← List.take_take, i4, List.take_replicate, show min k bp = k by omega]
        refine ⟨⟨⟨bp + k, c.take bp ++ ((c.take M).take k ++ c.drop (bp + k))⟩, ?_, ?_, ?_, ?_⟩, leS_of ?_ ?_, ?_⟩
        · simp; omega
        · simp only; omega
        · simp only; omega
        · simp only
          rw [i4, e1, ← List.append_assoc, List.replicate_append_replicate]
          exact List.take_left' (by simp)
        · have hMc : min M c.length = M := by omega
          simp [repI, leT, setD, setL, updH, evA, unA, getA, getL, constA, undefs, deads, ← hM, hMc, ← hk]
        · have hMc : min M c.length = M := by omega
          simp [repI, leH, setD, setL, updH, evA, unA, getA, getL, constA, undefs, deads, ← hM, hMc, ← hk]
        · show n - (bp + k) < n - bp
          omega
      · have : bp = n := by have := of_decide_eq_false h; omega
        subst this
        (repeat (first | refine gos (k := ?_) | refine fun (_ : _ = false) => ?_ | refine ⟨fun (_ : true = true) => ?_, fun h => absurd h (by decide)⟩ | refine gtr (k := ?_)))
        rw [List.take_of_length_le (by omega)] at i4
        rw [i4]
        exact ⟨_, rfl, rfl, rfl, trivial⟩
  · (repeat (first | refine gos (k := ?_) | refine fun (_ : _ = false) => ?_ | refine ⟨fun (_ : true = true) => ?_, fun h => absurd h (by decide)⟩ | refine gtr (k := ?_)))
    refine call_mnz Tryd.func48 (by kernel_rfl) (by kernel_rfl) (by kernel_rfl) (ps := #[3]) (t := 36) (e := 5) (by kernel_rfl) Tryd.underlying36 n (by omega) rfl 54 (en := ⟨0, .dead⟩) rfl ?_
    intro c0 hc0
    (repeat (first | refine gos (k := ?_) | refine fun (_ : _ = false) => ?_ | refine ⟨fun (_ : true = true) => ?_, fun h => absurd h (by decide)⟩ | refine gtr (k := ?_)))
    (refine sts (k := ?_))
    (refine sts (k := ?_))
    have hmin : min n 1 = 1 := by omega
    refine loop_of (σ := {y : RS // y.c.length = n ∧ 1 ≤ y.bp ∧ y.bp ≤ n ∧ y.c.take y.bp = List.replicate y.bp b}) (fun y => repI n ((n : Int)) y.1) (fun y => n - y.1.bp) ⟨⟨1, b :: c0.drop 1⟩, by simp; omega, Nat.le_refl _, h0, rfl⟩ ?_ ?_ ?_
    · simp [repI, leT, setD, setL, updH, evA, unA, getA, getL, constA, undefs, deads, hmin]
    · simp [repI, leH, setD, setL, updH, evA, unA, getA, getL, constA, undefs, deads, hmin]
    · rintro ⟨⟨bp, c⟩, i1, i2, i3, i4⟩
      simp only at i1 i2 i3 i4
      dsimp only [repI]
      repeat (refine gos (k := ?_))
      refine And.intro (fun h => ?_) (fun h => ?_)
      · have hlt : bp < n := by have := of_decide_eq_true h; omega
        (repeat (first | refine gos (k := ?_) | refine fun (_ : _ = false) => ?_ | refine ⟨fun (_ : true = true) => ?_, fun h => absurd h (by decide)⟩ | refine gtr (k := ?_)))
        refine draw_of (p := 0) tbOk hm [0, 0, 0, 6, 0, 0, 48, 126, 255, 511] [⟨0, false, false, []⟩, ⟨1, false, false, []⟩, ⟨2, false, false, []⟩, ⟨3, true, false, [67, 71, 72, 73, 74, 75, 10]⟩, ⟨4, false, false, []⟩, ⟨5, false, false, []⟩, ⟨6, true, false, [67, 68, 69, 70, 74, 75, 10]⟩, ⟨7, true, true, [67, 75, 10]⟩, ⟨8, false, false, []⟩, ⟨9, false, false, []⟩] (by kernel_rfl) ?_
        (repeat (first | refine gos (k := ?_) | refine fun (_ : _ = false) => ?_ | refine ⟨fun (_ : true = true) => ?_, fun h => absurd h (by decide)⟩ | refine gtr (k := ?_)))
        (refine sts (k := ?_))
        obtain ⟨M, hM⟩ : ∃ M, M = (min (bp : Int) ((n : Int))).toNat := ⟨_, rfl⟩
        obtain ⟨k, hk⟩ : ∃ k, k = min (n - bp) M := ⟨_, rfl⟩
        have hM1 : 1 ≤ M ∧ M ≤ bp := by omega
        have e1 : (c.take M).take k = List.replicate k b := by
          rw [List.take_take, show min k M = min k bp by omega, ← List.take_take, i4, List.take_replicate, show min k bp = k by omega]
        refine ⟨⟨⟨bp + k, c.take bp ++ ((c.take M).take k ++ c.drop (bp + k))⟩, ?_, ?_, ?_, ?_⟩, leS_of ?_ ?_, ?_⟩
        · simp; omega
        · simp only; omega
        · simp only; omega
        · simp only
          rw [i4, e1, ← List.append_assoc, List.replicate_append_replicate]
          exact List.take_left' (by simp)
        · have hMc : min M c.length = M := by omega
          simp [repI, leT, setD, setL, updH, evA, unA, getA, getL, constA, undefs, deads, ← hM, hMc, ← hk]
        · have hMc : min M c.length = M := by omega
          simp [repI, leH, setD, setL, updH, evA, unA, getA, getL, constA, undefs, deads, ← hM, hMc, ← hk]
        · show n - (bp + k) < n - bp
          omega
      · have : bp = n := by have := of_decide_eq_false h; omega
        subst this
        (repeat (first | refine gos (k := ?_) | refine fun (_ : _ = false) => ?_ | refine ⟨fun (_ : true = true) => ?_, fun h => absurd h (by decide)⟩ | refine gtr (k := ?_)))
        rw [List.take_of_length_le (by omega)] at i4
        rw [i4]
        exact ⟨_, rfl, rfl, rfl, trivial⟩
end Go.Proofs.YtddocchgikaahaaDoor
