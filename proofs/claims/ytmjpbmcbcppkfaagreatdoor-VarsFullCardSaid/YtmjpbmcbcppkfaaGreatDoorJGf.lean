/- Walks of flash: the device's writing. Walks of bytes.Repeat of one byte. Walks of flash: New. Walks of lintellaw07: Same, twin. Walks of flash: Erase$1. Walks of flash: Erase$2. Walks of flash: write with Erase$2. Walks of flash: Sectors, Arm, On, Dead, Writes. Walks of flash: Erase. Walks of flash: slices.Clone, Image. Walks of flash: Program. The flash as a record, and what each call makes of it. Conditions: the premises of each law. -/
import Derived.Test.YtmjpbmcbcppkfaaGreatDoorJAw
import Derived.Test.YtmjpbmcbcppkfaaGreatDoorJAc
import Derived.Test.YtmjpbmcbcppkfaaGreatDoorJTb
namespace Go.Proofs.YtmjpbmcbcppkfaaGreatDoor
open Go.RowKit
set_option linter.unusedVariables false
set_option linter.unusedSimpArgs false
set_option maxRecDepth 100000
set_option maxHeartbeats 1500000
theorem hm : Tryz.prog.follows .mixedOrders = true := by kernel_rfl
theorem p1_vc (i a : Int) (b : UInt8) (hi : I64 i) (ha : I64 a) (l : List UInt8) (hl : l.length ≤ 140737488355328) (h1 : 0 ≤ a) (h2 : 0 ≤ i) (h3 : a + i < l.length) (v0 v1 v2 v3 v4 v5 : Nat) (a1 a2 a3 a5 : Int) (a4 : Bool) : Spec Tryz.prog 218 [.ref 0 v0 1 0 0, .ref 1 v1 1 0 0, .ref 2 v2 1 0 0, .ref 3 v3 1 0 0]
   [⟨v0, .obj [.ref 4 v4 6 0 0]⟩, ⟨v1, .obj [.val (.int .i64 a)]⟩, ⟨v2, .obj [.val (.int .i64 i)]⟩, ⟨v3, .obj [.val (.int .u8 b.toNat)]⟩, ⟨v4, .obj [.own 5 v5 1 0 l.length, .val (.int .i64 a1), .val (.int .i64 a2), .val (.int .i64 a3), .val (.bool a4), .val (.int .i64 a5)]⟩, ⟨v5, .bytes l⟩]
   (pst (.tup []) [⟨v0, .obj [.ref 4 v4 6 0 0]⟩, ⟨v1, .obj [.val (.int .i64 a)]⟩, ⟨v2, .obj [.val (.int .i64 i)]⟩, ⟨v3, .obj [.val (.int .u8 b.toNat)]⟩, ⟨v4, .obj [.own 5 v5 1 0 l.length, .val (.int .i64 a1), .val (.int .i64 a2), .val (.int .i64 a3), .val (.bool a4), .val (.int .i64 a5)]⟩, ⟨v5, .bytes (l.set (a + i).toNat (l.getD (a + i).toNat 0 &&& b))⟩]) := by
 refine spec_entry tbOk Tryz.func218 rfl Tryz.ntmps218 Tryz.results218 ?_
 conv => whnf
 refine draw_of (p := 6) tbOk hm [0, 1, 3, 7, 0, 0, 48, 127, 255, 0, 1023, 2047, 4095] [⟨0, true, false, [5, 6, 7, 8, 9, 10, 11, 12, 13, 14, 15]⟩, ⟨1, true, false, [6, 7, 8, 9, 10, 11, 12, 13, 14, 15]⟩, ⟨2, true, false, [7, 8, 9, 10, 11, 12, 13, 14, 15]⟩, ⟨3, true, false, [8, 9, 10, 11, 12, 13, 14, 15]⟩, ⟨4, true, false, [4, 5, 6, 7, 9, 10, 11, 12, 13, 14, 15]⟩, ⟨5, true, false, [4, 5, 6, 7, 8, 10, 11, 12, 13, 14, 15]⟩, ⟨6, false, false, []⟩, ⟨7, true, false, [12, 13, 14, 15]⟩, ⟨8, true, false, [13, 14, 15]⟩, ⟨9, true, false, [4, 5, 6, 7, 8, 9, 10, 11, 12, 14, 15]⟩, ⟨10, false, false, []⟩, ⟨11, true, false, []⟩, ⟨12, true, true, []⟩] (by kernel_rfl) ?_
 repeat (refine gos (k := ?_))
 rw [u8_and, Nat.zero_add]
 exact ⟨_, rfl, rfl⟩
theorem write1 (i a : Int) (b : UInt8) (hi : I64 i) (ha : I64 a) (l : List UInt8) (hl : l.length ≤ 140737488355328) (h1 : 0 ≤ a) (h2 : 0 ≤ i) (h3 : a + i < l.length) (v0 v1 v2 v3 v4 v5 : Nat) (a1 a2 a3 a5 : Int) (a4 : Bool) (hA2 : I64 a2) (hA5 : 0 ≤ a5 ∧ a5 < 9223372036854775807) (d : Bool) (hd : d = if 0 < a2 then decide (a2 - 1 = 0) else a4) : Spec Tryz.prog 207 [.ref 4 v4 6 0 0, .clo 218 [.ref 0 v0 1 0 0, .ref 1 v1 1 0 0, .ref 2 v2 1 0 0, .ref 3 v3 1 0 0]]
   [⟨v0, .obj [.ref 4 v4 6 0 0]⟩, ⟨v1, .obj [.val (.int .i64 a)]⟩, ⟨v2, .obj [.val (.int .i64 i)]⟩, ⟨v3, .obj [.val (.int .u8 b.toNat)]⟩, ⟨v4, .obj [.own 5 v5 1 0 l.length, .val (.int .i64 a1), .val (.int .i64 a2), .val (.int .i64 a3), .val (.bool a4), .val (.int .i64 a5)]⟩, ⟨v5, .bytes l⟩]
   (pst (.val (.int .i64 (if d then 6 else 0))) [⟨v0, .obj [.ref 4 v4 6 0 0]⟩, ⟨v1, .obj [.val (.int .i64 a)]⟩, ⟨v2, .obj [.val (.int .i64 i)]⟩, ⟨v3, .obj [.val (.int .u8 b.toNat)]⟩, ⟨v4, .obj [.own 5 v5 1 0 l.length, .val (.int .i64 a1), .val (.int .i64 (if 0 < a2 then a2 - 1 else a2)), .val (.int .i64 a3), .val (.bool d), .val (.int .i64 (if d then a5 else a5 + 1))]⟩, ⟨v5, .bytes (if d then l else l.set (a + i).toNat (l.getD (a + i).toNat 0 &&& b))⟩]) := by
 refine spec_entry tbOk Tryz.func207 rfl Tryz.ntmps207 Tryz.results207 ?_
 repeat (refine gos (k := ?_))
 refine ⟨fun h => ?_, fun h => ?_⟩
 ·repeat (refine gos (k := ?_))
  have e1 : 0 < a2 := of_decide_eq_true h
  refine ⟨fun h' => ?_, fun h' => ?_⟩
  ·have e3 : d = true := by rw [hd, if_pos e1]; exact h'
   repeat (refine gos (k := ?_))
   simp only [e3, e1, h', ↓reduceIte]
   exact ⟨_, rfl, rfl⟩
  ·have e3 : d = false := by rw [hd, if_pos e1]; exact h'
   repeat (refine gos (k := ?_))
   refine call_det (p1_vc i a b hi ha l hl h1 h2 h3 v0 v1 v2 v3 v4 v5 a1 (a2 - 1) a3 a5 (decide (a2 - 1 = 0))) Tryz.call218 [0, 1, 2, 3, 4, 5] rfl rfl (by decide) rfl ?_ ?_ ?_ ?_ ?_
   ·exact rowt
   ·exact rowt
   ·exact rowt
   ·exact rowt
   ·repeat (refine gos (k := ?_))
    simp only [e3, e1, h', ↓reduceIte, Bool.false_eq_true]
    exact ⟨_, rfl, rfl⟩
 ·have e1 : ¬ 0 < a2 := of_decide_eq_false h
  repeat (refine gos (k := ?_))
  refine ⟨fun h' => ?_, fun h' => ?_⟩
  ·have e3 : d = true := by rw [hd, if_neg e1]; exact h'
   repeat (refine gos (k := ?_))
   simp only [e3, e1, h', ↓reduceIte]
   exact ⟨_, rfl, rfl⟩
  ·have e3 : d = false := by rw [hd, if_neg e1]; exact h'
   repeat (refine gos (k := ?_))
   refine call_det (p1_vc i a b hi ha l hl h1 h2 h3 v0 v1 v2 v3 v4 v5 a1 a2 a3 a5 a4) Tryz.call218 [0, 1, 2, 3, 4, 5] rfl rfl (by decide) rfl ?_ ?_ ?_ ?_ ?_
   ·exact rowt
   ·exact rowt
   ·exact rowt
   ·exact rowt
   ·repeat (refine gos (k := ?_))
    simp only [e3, e1, h', ↓reduceIte, Bool.false_eq_true]
    exact ⟨_, rfl, rfl⟩
theorem begin_vc (v0 v1 : Nat) (l : List UInt8) (a1 a2 a3 a5 : Int) (a4 : Bool) : Spec Tryz.prog 205 [.ref 0 v0 6 0 0] [⟨v0, .obj [.own 1 v1 1 0 l.length, .val (.int .i64 a1), .val (.int .i64 a2), .val (.int .i64 a3), .val (.bool a4), .val (.int .i64 a5)]⟩, ⟨v1, .bytes l⟩]
   (pst (.val (.int .i64 (if a4 then 6 else 0))) [⟨v0, .obj [.own 1 v1 1 0 l.length, .val (.int .i64 a1), .val (.int .i64 a2), .val (.int .i64 a3), .val (.bool a4), .val (.int .i64 a5)]⟩, ⟨v1, .bytes l⟩]) := by
 refine spec_entry tbOk Tryz.func205 rfl Tryz.ntmps205 Tryz.results205 ?_
 repeat (refine gos (k := ?_))
 intro _
 repeat (refine gos (k := ?_))
 refine ⟨fun h => ?_, fun h => ?_⟩
 ·subst h
  repeat (refine gos (k := ?_))
  exact ⟨_, rfl, rfl⟩
 ·subst h
  repeat (refine gos (k := ?_))
  exact ⟨_, rfl, rfl⟩
theorem within_vc (i n : Int) (hi : I64 i) (hn : I64 n) (l : List UInt8) (hl : l.length ≤ 140737488355328) (v0 v1 : Nat) (a1 a2 a3 a5 : Int) (a4 : Bool) : Spec Tryz.prog 217 [.ref 0 v0 6 0 0, .val (.int .i64 i), .val (.int .i64 n)] [⟨v0, .obj [.own 1 v1 1 0 l.length, .val (.int .i64 a1), .val (.int .i64 a2), .val (.int .i64 a3), .val (.bool a4), .val (.int .i64 a5)]⟩, ⟨v1, .bytes l⟩]
   (pst (.val (.bool (decide (0 ≤ i ∧ 0 ≤ n ∧ i + n ≤ l.length)))) [⟨v0, .obj [.own 1 v1 1 0 l.length, .val (.int .i64 a1), .val (.int .i64 a2), .val (.int .i64 a3), .val (.bool a4), .val (.int .i64 a5)]⟩, ⟨v1, .bytes l⟩]) := by
 refine spec_entry tbOk Tryz.func217 rfl Tryz.ntmps217 Tryz.results217 ?_
 repeat (refine gos (k := ?_))
 refine ⟨_, congrArg AV.val (congrArg Value.bool ?_), rfl⟩
 rw [Bool.eq_iff_iff]; simp; omega
end Go.Proofs.YtmjpbmcbcppkfaaGreatDoor
namespace Go.Proofs.YtmjpbmcbcppkfaaGreatDoor
open Go.RowKit
set_option linter.unusedVariables false
set_option linter.unusedSimpArgs false
set_option maxRecDepth 100000
set_option maxHeartbeats 1500000
theorem and32 (a : Nat) : a &&& 4294967295 = a % 4294967296 := Nat.and_two_pow_sub_one_eq_mod a 32
theorem mul64_vc (n : Int) (h0 : 0 ≤ n) (h1 : n ≤ 9223372036854775807) : Spec Tryz.prog 87 [.val (.int .u64 1), .val (.int .u64 n)] [] (pms (.tup [.val (.int .u64 0), .val (.int .u64 n)]) [] []) := by
 refine spec_entry tbOk Tryz.func87 rfl Tryz.ntmps87 Tryz.results87 ?_
 repeat (refine gos (k := ?_))
 have e1 : (2 : Int) ^ Int.toNat 32 = 4294967296 := by decide
 have e2 : Int.toNat 4294967295 = 4294967295 := rfl
 have e3 : Int.toNat 1 = 1 := rfl
 simp only [e1, e2, e3, and32, Int.toNat_natCast]
 refine ⟨_, congrArg AV.tup (congr (congrArg _ (congrArg AV.val (congrArg (Value.int .u64) ?_))) (congrArg (fun x => [AV.val (.int .u64 x)]) ?_)), rfl, trivial⟩
 ·omega
 ·omega
theorem mul_vc (n : Int) (h0 : 0 ≤ n) (h1 : n ≤ 9223372036854775807) : Spec Tryz.prog 52 [.val (.int .u64 1), .val (.int .u64 n)] [] (pms (.tup [.val (.int .u64 0), .val (.int .u64 n)]) [] []) := by
 refine spec_entry tbOk Tryz.func52 rfl Tryz.ntmps52 Tryz.results52 ?_
 refine gg (k := ?_)
 refine cmks (mul64_vc n h0 h1) Tryz.call87 0 [] [] [] ?_
 refine gg (k := ?_)
 exact ⟨_, rfl, rfl, trivial⟩
structure RS where
 bp : Nat
 c : List UInt8
def repI (n : Nat) (ch : Int) (y : RS) : St := ⟨[.any, .any, .any, .any, .any, .any, .any, .val (.int .i64 n), .val (.int .i64 ch), .own 54 1 1 0 n, .val (.int .i64 y.bp), .any, .any, .any, .any, .any, .any, .any, .any, .any, .any, .any, .any, .any, .any, .any, .any, .any, .any, .any, .any, .any, .any, .any, .any, .any, .any, .any, .any, .any, .any, .any, .any, .any, .any, .any, .any, .any, .any, .any, .any, .any, .any, .any, .any, .any, .any, .any, .any, .any, .any, .any, .any, .any, .any, .any, .any, .any, .any, .any, .any, .any, .any, .any, .any, .any, .any], [⟨0, .dead⟩, ⟨0, .dead⟩, ⟨0, .dead⟩, ⟨0, .dead⟩, ⟨0, .dead⟩, ⟨0, .dead⟩, ⟨0, .dead⟩, ⟨0, .dead⟩, ⟨0, .dead⟩, ⟨0, .dead⟩, ⟨0, .dead⟩, ⟨0, .dead⟩, ⟨0, .dead⟩, ⟨0, .dead⟩, ⟨0, .dead⟩, ⟨0, .dead⟩, ⟨0, .dead⟩, ⟨0, .dead⟩, ⟨0, .dead⟩, ⟨0, .dead⟩, ⟨0, .dead⟩, ⟨0, .dead⟩, ⟨0, .dead⟩, ⟨0, .dead⟩, ⟨0, .dead⟩, ⟨0, .dead⟩, ⟨0, .dead⟩, ⟨0, .dead⟩, ⟨0, .dead⟩, ⟨0, .dead⟩, ⟨0, .dead⟩, ⟨0, .dead⟩, ⟨0, .dead⟩, ⟨0, .dead⟩, ⟨0, .dead⟩, ⟨0, .dead⟩, ⟨0, .dead⟩, ⟨0, .dead⟩, ⟨0, .dead⟩, ⟨0, .dead⟩, ⟨0, .dead⟩, ⟨0, .dead⟩, ⟨0, .dead⟩, ⟨0, .dead⟩, ⟨0, .dead⟩, ⟨0, .dead⟩, ⟨0, .dead⟩, ⟨0, .dead⟩, ⟨0, .dead⟩, ⟨0, .dead⟩, ⟨0, .dead⟩, ⟨0, .dead⟩, ⟨0, .dead⟩, ⟨0, .dead⟩, ⟨1, .bytes y.c⟩, ⟨0, .dead⟩, ⟨0, .dead⟩, ⟨0, .dead⟩, ⟨0, .dead⟩, ⟨0, .dead⟩, ⟨0, .dead⟩, ⟨0, .dead⟩, ⟨0, .dead⟩, ⟨0, .dead⟩, ⟨0, .dead⟩, ⟨0, .dead⟩, ⟨0, .dead⟩, ⟨0, .dead⟩, ⟨0, .dead⟩, ⟨0, .dead⟩, ⟨0, .dead⟩, ⟨0, .dead⟩, ⟨0, .dead⟩, ⟨0, .dead⟩, ⟨0, .dead⟩, ⟨0, .dead⟩, ⟨0, .dead⟩]⟩
theorem repeat_vc (z : Nat) (b : UInt8) (n : Nat) (h0 : 0 < n) (h1 : n ≤ 4194304) : Spec Tryz.prog 36 [.bs z [b], .val (.int .i64 n)] [] (pms (.own 54 1 1 0 n) [] [(54, ⟨1, .bytes (List.replicate n b)⟩)]) := by
 refine spec_entry tbOk Tryz.func36 rfl Tryz.ntmps36 Tryz.results36 ?_
 refine gg (k := ?_)
 have hn : (n : Int) % 18446744073709551616 = n := by omega
 rw [hn]
 refine cmks (mul_vc n (by omega) (by omega)) Tryz.call52 0 [] [] [] ?_
 refine gg (k := ?_)
 refine And.intro (fun hbig => ?_) (fun hbig => ?_)
 ·refine gg (k := ?_)
  refine call_mnz Tryz.func53 (by kernel_rfl) (by kernel_rfl) (by kernel_rfl) (ps := #[3]) (t := 24) (e := 5) (by kernel_rfl) Tryz.underlying24 n (by omega) rfl 54 (en := ⟨0, .dead⟩) rfl ?_
  intro c0 hc0
  refine gg (k := ?_)
  (refine sts (k := ?_))
  (refine sts (k := ?_))
  have hmin : min n 1 = 1 := by omega
  refine loop_of (σ := {y : RS // y.c.length = n ∧ 1 ≤ y.bp ∧ y.bp ≤ n ∧ y.c.take y.bp = List.replicate y.bp b}) (fun y => repI n (8192) y.1) (fun y => n - y.1.bp) ⟨⟨1, b :: c0.drop 1⟩, by simp; omega, Nat.le_refl _, h0, rfl⟩ ?_ ?_ ?_
  ·simp [repI, leT, setD, setL, updH, evA, unA, getA, getL, constA, undefs, deads, hmin]
  ·simp [repI, leH, setD, setL, updH, evA, unA, getA, getL, constA, undefs, deads, hmin]
  ·rintro ⟨⟨bp, c⟩, i1, i2, i3, i4⟩
   simp only at i1 i2 i3 i4
   dsimp only [repI]
   repeat (refine gos (k := ?_))
   refine And.intro (fun h => ?_) (fun h => ?_)
   ·have hlt : bp < n := by have := of_decide_eq_true h; omega
    refine gg (k := ?_)
    refine draw_of (p := 0) tbOk hm [0, 0, 0, 6, 0, 0, 48, 126, 255, 511] [⟨0, false, false, []⟩, ⟨1, false, false, []⟩, ⟨2, false, false, []⟩, ⟨3, true, false, [67, 71, 72, 73, 74, 75, 10]⟩, ⟨4, false, false, []⟩, ⟨5, false, false, []⟩, ⟨6, true, false, [67, 68, 69, 70, 74, 75, 10]⟩, ⟨7, true, true, [67, 75, 10]⟩, ⟨8, false, false, []⟩, ⟨9, false, false, []⟩] (by kernel_rfl) ?_
    refine gg (k := ?_)
    (refine sts (k := ?_))
    obtain ⟨M, hM⟩ : ∃ M, M = (min (bp : Int) (8192)).toNat := ⟨_, rfl⟩
    obtain ⟨k, hk⟩ : ∃ k, k = min (n - bp) M := ⟨_, rfl⟩
    have hM1 : 1 ≤ M ∧ M ≤ bp := by omega
    have e1 : (c.take M).take k = List.replicate k b := by
     rw [List.take_take, show min k M = min k bp by omega, ← List.take_take, i4, List.take_replicate, show min k bp = k by omega]
    refine ⟨⟨⟨bp + k, c.take bp ++ ((c.take M).take k ++ c.drop (bp + k))⟩, ?_, ?_, ?_, ?_⟩, leS_of ?_ ?_, ?_⟩
    ·simp; omega
    ·simp only; omega
    ·simp only; omega
    ·simp only
     rw [i4, e1, ← List.append_assoc, List.replicate_append_replicate]
     exact List.take_left' (by simp)
    ·have hMc : min M c.length = M := by omega
     simp [repI, leT, setD, setL, updH, evA, unA, getA, getL, constA, undefs, deads, ← hM, hMc, ← hk]
    ·have hMc : min M c.length = M := by omega
     simp [repI, leH, setD, setL, updH, evA, unA, getA, getL, constA, undefs, deads, ← hM, hMc, ← hk]
    ·show n - (bp + k) < n - bp
     omega
   ·have : bp = n := by have := of_decide_eq_false h; omega
    subst this
    refine gg (k := ?_)
    rw [List.take_of_length_le (by omega)] at i4
    rw [i4]
    exact ⟨_, rfl, rfl, rfl, trivial⟩
 ·refine gg (k := ?_)
  refine call_mnz Tryz.func53 (by kernel_rfl) (by kernel_rfl) (by kernel_rfl) (ps := #[3]) (t := 24) (e := 5) (by kernel_rfl) Tryz.underlying24 n (by omega) rfl 54 (en := ⟨0, .dead⟩) rfl ?_
  intro c0 hc0
  refine gg (k := ?_)
  (refine sts (k := ?_))
  (refine sts (k := ?_))
  have hmin : min n 1 = 1 := by omega
  refine loop_of (σ := {y : RS // y.c.length = n ∧ 1 ≤ y.bp ∧ y.bp ≤ n ∧ y.c.take y.bp = List.replicate y.bp b}) (fun y => repI n ((n : Int)) y.1) (fun y => n - y.1.bp) ⟨⟨1, b :: c0.drop 1⟩, by simp; omega, Nat.le_refl _, h0, rfl⟩ ?_ ?_ ?_
  ·simp [repI, leT, setD, setL, updH, evA, unA, getA, getL, constA, undefs, deads, hmin]
  ·simp [repI, leH, setD, setL, updH, evA, unA, getA, getL, constA, undefs, deads, hmin]
  ·rintro ⟨⟨bp, c⟩, i1, i2, i3, i4⟩
   simp only at i1 i2 i3 i4
   dsimp only [repI]
   repeat (refine gos (k := ?_))
   refine And.intro (fun h => ?_) (fun h => ?_)
   ·have hlt : bp < n := by have := of_decide_eq_true h; omega
    refine gg (k := ?_)
    refine draw_of (p := 0) tbOk hm [0, 0, 0, 6, 0, 0, 48, 126, 255, 511] [⟨0, false, false, []⟩, ⟨1, false, false, []⟩, ⟨2, false, false, []⟩, ⟨3, true, false, [67, 71, 72, 73, 74, 75, 10]⟩, ⟨4, false, false, []⟩, ⟨5, false, false, []⟩, ⟨6, true, false, [67, 68, 69, 70, 74, 75, 10]⟩, ⟨7, true, true, [67, 75, 10]⟩, ⟨8, false, false, []⟩, ⟨9, false, false, []⟩] (by kernel_rfl) ?_
    refine gg (k := ?_)
    (refine sts (k := ?_))
    obtain ⟨M, hM⟩ : ∃ M, M = (min (bp : Int) ((n : Int))).toNat := ⟨_, rfl⟩
    obtain ⟨k, hk⟩ : ∃ k, k = min (n - bp) M := ⟨_, rfl⟩
    have hM1 : 1 ≤ M ∧ M ≤ bp := by omega
    have e1 : (c.take M).take k = List.replicate k b := by
     rw [List.take_take, show min k M = min k bp by omega, ← List.take_take, i4, List.take_replicate, show min k bp = k by omega]
    refine ⟨⟨⟨bp + k, c.take bp ++ ((c.take M).take k ++ c.drop (bp + k))⟩, ?_, ?_, ?_, ?_⟩, leS_of ?_ ?_, ?_⟩
    ·simp; omega
    ·simp only; omega
    ·simp only; omega
    ·simp only
     rw [i4, e1, ← List.append_assoc, List.replicate_append_replicate]
     exact List.take_left' (by simp)
    ·have hMc : min M c.length = M := by omega
     simp [repI, leT, setD, setL, updH, evA, unA, getA, getL, constA, undefs, deads, ← hM, hMc, ← hk]
    ·have hMc : min M c.length = M := by omega
     simp [repI, leH, setD, setL, updH, evA, unA, getA, getL, constA, undefs, deads, ← hM, hMc, ← hk]
    ·show n - (bp + k) < n - bp
     omega
   ·have : bp = n := by have := of_decide_eq_false h; omega
    subst this
    refine gg (k := ?_)
    rw [List.take_of_length_le (by omega)] at i4
    rw [i4]
    exact ⟨_, rfl, rfl, rfl, trivial⟩
end Go.Proofs.YtmjpbmcbcppkfaaGreatDoor
namespace Go.Proofs.YtmjpbmcbcppkfaaGreatDoor
open Go.RowKit
set_option linter.unusedVariables false
set_option linter.unusedSimpArgs false
set_option maxRecDepth 100000
set_option maxHeartbeats 1500000
theorem new_vc (x y : Nat) (h1 : 1 ≤ x ∧ x ≤ 64) (h2 : 16 ≤ y ∧ y ≤ 65536) : Spec Tryz.prog 20 [.val (.int .i64 x), .val (.int .i64 y)] [] (pms (.tup [.ref 27 1 6 0 0, .val (.int .i64 0)]) [] [(27, ⟨1, .obj [.own 24 2 1 0 (x * y), .val (.int .i64 y), .val (.int .i64 0), .val (.int .i64 0), .val (.bool false), .val (.int .i64 0)]⟩), (24, ⟨2, .bytes (List.replicate (x * y) 255)⟩)]) := by
 have hxy : x * y ≤ 4194304 := Nat.le_trans (Nat.mul_le_mul h1.2 h2.2) (by decide)
 have hxy0 : 0 < x * y := Nat.mul_pos (by omega) (by omega)
 have hc : (x : Int) * (y : Int) = ((x * y : Nat) : Int) := by push_cast; rfl
 refine spec_entry tbOk Tryz.func20 rfl Tryz.ntmps20 Tryz.results20 ?_
 refine gg (k := ?_)
 rw [hc]
 have rp : Spec Tryz.prog 36 [.own 0 1 1 0 1, .val (.int .i64 ((x * y : Nat) : Int))] [⟨1, .bytes [255]⟩] (pms (.own 55 1 1 0 (x * y)) [⟨1, .bytes [255]⟩] [(55, ⟨1, .bytes (List.replicate (x * y) 255)⟩)]) :=
  spec_ro (repeat_vc 0 255 (x * y) hxy0 hxy) trivial ⟨trivial, trivial⟩ (asL_cons (as_own (l := [255]) (off := 0) (n := 1) rfl (by decide)) (asL_cons as_val asL_nil))
 refine cmks (rp) Tryz.call36 1 [20, 0, 0, 0, 0, 0, 0, 0, 0, 0, 0, 0, 0, 0, 0, 0, 0, 0, 0, 0, 0, 0, 0, 0, 0, 0, 0, 0, 0, 0, 0, 0, 0, 0, 0, 0, 0, 0, 0, 0, 0, 0, 0, 0, 0, 0, 0, 0, 0, 0, 0, 0, 0, 0, 0, 24] [0, 0, 0, 0, 0, 0, 0, 0, 0, 0, 0, 0, 0, 0, 0, 0, 0, 0, 0, 0, 0, 0, 0, 0, 0, 0, 0, 0, 0, 0, 0, 0, 0, 0, 0, 0, 0, 0, 0, 0, 0, 0, 0, 0, 0, 0, 0, 0, 0, 0, 0, 0, 0, 0, 0, 1] [55] ?_
 refine gg (k := ?_)
 exact ⟨_, rfl, rfl, rfl, rfl, trivial⟩
end Go.Proofs.YtmjpbmcbcppkfaaGreatDoor
namespace Go.Proofs.YtmjpbmcbcppkfaaGreatDoor
open Go.RowKit
set_option linter.unusedVariables false
set_option linter.unusedSimpArgs false
set_option maxRecDepth 100000
set_option maxHeartbeats 1500000
end Go.Proofs.YtmjpbmcbcppkfaaGreatDoor
namespace Go.Proofs.YtmjpbmcbcppkfaaGreatDoor
open Go.RowKit
set_option linter.unusedVariables false
set_option linter.unusedSimpArgs false
set_option maxRecDepth 100000
set_option maxHeartbeats 1500000
def fillN (c : List UInt8) (o : Nat) : Nat → List UInt8
 | 0 => c
 | k + 1 => (fillN c o k).set (o + k) 255
theorem fillN_length (c : List UInt8) (o : Nat) : ∀ k, (fillN c o k).length = c.length
 | 0 => rfl
 | k + 1 => by simp [fillN, fillN_length c o k]
def er1I (k v0 v1 o n : Nat) (l : List UInt8) (i : Nat) : St := ⟨[.val (.int .i64 k), .ref 0 v0 1 0 0, .any, .any, .val (.int .i64 k), .val (.int .i64 i), .any, .any, .any, .any, .any, .any], [⟨v0, .obj [.own 1 v1 1 o n]⟩, ⟨v1, .bytes (fillN l o i)⟩, ⟨0, .dead⟩, ⟨0, .dead⟩, ⟨0, .dead⟩, ⟨0, .dead⟩, ⟨0, .dead⟩, ⟨0, .dead⟩, ⟨0, .dead⟩, ⟨0, .dead⟩, ⟨0, .dead⟩, ⟨0, .dead⟩, ⟨0, .dead⟩, ⟨0, .dead⟩]⟩
theorem er1_vc (k : Nat) (l : List UInt8) (hl : l.length ≤ 140737488355328) (v0 v1 o n : Nat) (hk : k ≤ n) (hn : o + n ≤ l.length) : Spec Tryz.prog 206 [.val (.int .i64 k), .ref 0 v0 1 0 0] [⟨v0, .obj [.own 1 v1 1 o n]⟩, ⟨v1, .bytes l⟩]
   (pst (.tup []) [⟨v0, .obj [.own 1 v1 1 o n]⟩, ⟨v1, .bytes (fillN l o k)⟩]) := by
 refine spec_entry tbOk Tryz.func206 rfl Tryz.ntmps206 Tryz.results206 ?_
 repeat (refine gos (k := ?_))
 (refine sts (k := ?_))
 (refine sts (k := ?_))
 refine loop_of (σ := {i : Nat // i ≤ k}) (fun y => er1I k v0 v1 o n l y.1) (fun y => k - y.1) ⟨0, by omega⟩ ?_ ?_ ?_
 ·simp [er1I, leT, setD, setL, updH, evA, unA, getA, getL, constA, undefs, deads]
 ·simp [er1I, leH, fillN, setD, setL, updH, evA, unA, getA, getL, constA, undefs, deads]
 ·rintro ⟨i, hi⟩
  have hfl := fillN_length l o i
  dsimp only [er1I]
  repeat (refine gos (k := ?_))
  refine ⟨fun h => ?_, fun h => ?_⟩
  ·have hi' : i < k := by have := of_decide_eq_true h; omega
   repeat (refine gos (k := ?_))
   (refine sts (k := ?_))
   refine ⟨⟨i + 1, hi'⟩, leS_of ?_ ?_, ?_⟩
   ·simp [er1I, leT, setD, setL, updH, evA, unA, getA, getL, constA, undefs, deads]
   ·     simp [er1I, leH, fillN, setD, setL, updH, evA, unA, getA, getL, constA, undefs, deads]
   ·show k - (i + 1) < k - i
    omega
  ·have he : i = k := by have := of_decide_eq_false h; omega
   subst he
   repeat (refine gos (k := ?_))
   exact ⟨_, rfl, rfl⟩
end Go.Proofs.YtmjpbmcbcppkfaaGreatDoor
namespace Go.Proofs.YtmjpbmcbcppkfaaGreatDoor
open Go.RowKit
set_option linter.unusedVariables false
set_option linter.unusedSimpArgs false
set_option maxRecDepth 100000
set_option maxHeartbeats 1500000
theorem er2_vc (k : Nat) (l : List UInt8) (hl : l.length ≤ 140737488355328) (w0 w1 w2 v0 v1 o n : Nat) (hk : k ≤ n) (hn : o + n ≤ l.length) (a2 a3 a5 : Int) (a4 : Bool) : Spec Tryz.prog 208 [.ref 0 w0 1 0 0, .ref 1 w1 1 0 0] [⟨w0, .obj [.clo 206 [.ref 2 w2 1 0 0]]⟩, ⟨w1, .obj [.ref 3 v0 6 0 0]⟩, ⟨w2, .obj [.own 4 v1 1 o n]⟩, ⟨v0, .obj [.own 4 v1 1 0 l.length, .val (.int .i64 (k : Int)), .val (.int .i64 a2), .val (.int .i64 a3), .val (.bool a4), .val (.int .i64 a5)]⟩, ⟨v1, .bytes l⟩]
   (pst (.tup []) [⟨w0, .obj [.clo 206 [.ref 2 w2 1 0 0]]⟩, ⟨w1, .obj [.ref 3 v0 6 0 0]⟩, ⟨w2, .obj [.own 4 v1 1 o n]⟩, ⟨v0, .obj [.own 4 v1 1 0 l.length, .val (.int .i64 (k : Int)), .val (.int .i64 a2), .val (.int .i64 a3), .val (.bool a4), .val (.int .i64 a5)]⟩, ⟨v1, .bytes (fillN l o k)⟩]) := by
 refine spec_entry tbOk Tryz.func208 rfl Tryz.ntmps208 Tryz.results208 ?_
 conv => whnf
 refine draw_of (p := 5) tbOk hm [0, 0, 2, 6, 14, 31] [⟨0, true, false, [3, 4, 5, 6, 7]⟩, ⟨1, true, false, [2, 4, 5, 6, 7]⟩, ⟨2, true, false, [2, 5, 6, 7]⟩, ⟨3, true, false, [2, 6, 7]⟩, ⟨4, true, false, [2, 7]⟩, ⟨5, true, true, []⟩] (by kernel_rfl) ?_
 repeat (refine gos (k := ?_))
 refine call_det (er1_vc k l hl w2 v1 o n hk hn) Tryz.call206 [2, 4] rfl rfl (by decide) rfl ?_ ?_ ?_ ?_ ?_
 ·exact rowt
 ·exact rowt
 ·exact rowt
 ·exact rowt
 repeat (refine gos (k := ?_))
 exact ⟨_, rfl, rfl⟩
end Go.Proofs.YtmjpbmcbcppkfaaGreatDoor
namespace Go.Proofs.YtmjpbmcbcppkfaaGreatDoor
open Go.RowKit
set_option linter.unusedVariables false
set_option linter.unusedSimpArgs false
set_option maxRecDepth 100000
set_option maxHeartbeats 1500000
theorem write2 (k : Nat) (l : List UInt8) (hl : l.length ≤ 140737488355328) (w0 w1 w2 v0 v1 o n : Nat) (hk : k ≤ n) (hn : o + n ≤ l.length) (a2 a3 a5 : Int) (a4 : Bool) (hA2 : I64 a2) (hA5 : 0 ≤ a5 ∧ a5 < 9223372036854775807) (d : Bool) (hd : d = if 0 < a2 then decide (a2 - 1 = 0) else a4) : Spec Tryz.prog 207 [.ref 3 v0 6 0 0, .clo 208 [.ref 0 w0 1 0 0, .ref 1 w1 1 0 0]] [⟨w0, .obj [.clo 206 [.ref 2 w2 1 0 0]]⟩, ⟨w1, .obj [.ref 3 v0 6 0 0]⟩, ⟨w2, .obj [.own 4 v1 1 o n]⟩, ⟨v0, .obj [.own 4 v1 1 0 l.length, .val (.int .i64 (k : Int)), .val (.int .i64 a2), .val (.int .i64 a3), .val (.bool a4), .val (.int .i64 a5)]⟩, ⟨v1, .bytes l⟩]
   (pst (.val (.int .i64 (if d then 6 else 0))) [⟨w0, .obj [.clo 206 [.ref 2 w2 1 0 0]]⟩, ⟨w1, .obj [.ref 3 v0 6 0 0]⟩, ⟨w2, .obj [.own 4 v1 1 o n]⟩, ⟨v0, .obj [.own 4 v1 1 0 l.length, .val (.int .i64 (k : Int)), .val (.int .i64 (if 0 < a2 then a2 - 1 else a2)), .val (.int .i64 a3), .val (.bool d), .val (.int .i64 (if d then a5 else a5 + 1))]⟩, ⟨v1, .bytes (if d then l else fillN l o k)⟩]) := by
 refine spec_entry tbOk Tryz.func207 rfl Tryz.ntmps207 Tryz.results207 ?_
 repeat (refine gos (k := ?_))
 refine ⟨fun h => ?_, fun h => ?_⟩
 ·repeat (refine gos (k := ?_))
  have e1 : 0 < a2 := of_decide_eq_true h
  refine ⟨fun h' => ?_, fun h' => ?_⟩
  ·have e3 : d = true := by rw [hd, if_pos e1]; exact h'
   repeat (refine gos (k := ?_))
   simp only [e3, e1, h', ↓reduceIte]
   exact ⟨_, rfl, rfl⟩
  ·have e3 : d = false := by rw [hd, if_pos e1]; exact h'
   repeat (refine gos (k := ?_))
   refine call_det (er2_vc k l hl w0 w1 w2 v0 v1 o n hk hn (a2 - 1) a3 a5 (decide (a2 - 1 = 0))) Tryz.call208 [0, 1, 2, 3, 4] rfl rfl (by decide) rfl ?_ ?_ ?_ ?_ ?_
   ·exact rowt
   ·exact rowt
   ·exact rowt
   ·exact rowt
   ·repeat (refine gos (k := ?_))
    simp only [e3, e1, h', ↓reduceIte, Bool.false_eq_true]
    exact ⟨_, rfl, rfl⟩
 ·have e1 : ¬ 0 < a2 := of_decide_eq_false h
  repeat (refine gos (k := ?_))
  refine ⟨fun h' => ?_, fun h' => ?_⟩
  ·have e3 : d = true := by rw [hd, if_neg e1]; exact h'
   repeat (refine gos (k := ?_))
   simp only [e3, e1, h', ↓reduceIte]
   exact ⟨_, rfl, rfl⟩
  ·have e3 : d = false := by rw [hd, if_neg e1]; exact h'
   repeat (refine gos (k := ?_))
   refine call_det (er2_vc k l hl w0 w1 w2 v0 v1 o n hk hn a2 a3 a5 a4) Tryz.call208 [0, 1, 2, 3, 4] rfl rfl (by decide) rfl ?_ ?_ ?_ ?_ ?_
   ·exact rowt
   ·exact rowt
   ·exact rowt
   ·exact rowt
   ·repeat (refine gos (k := ?_))
    simp only [e3, e1, h', ↓reduceIte, Bool.false_eq_true]
    exact ⟨_, rfl, rfl⟩
end Go.Proofs.YtmjpbmcbcppkfaaGreatDoor
namespace Go.Proofs.YtmjpbmcbcppkfaaGreatDoor
open Go.RowKit
set_option linter.unusedVariables false
set_option linter.unusedSimpArgs false
set_option maxRecDepth 100000
set_option maxHeartbeats 1500000
theorem sectors_vc (l : List UInt8) (hl : l.length ≤ 140737488355328) (v0 v1 : Nat) (a1 a2 a3 a5 : Int) (a4 : Bool) (h1 : 0 < a1 ∧ I64 a1) : Spec Tryz.prog 74 [.ref 0 v0 6 0 0] [⟨v0, .obj [.own 1 v1 1 0 l.length, .val (.int .i64 a1), .val (.int .i64 a2), .val (.int .i64 a3), .val (.bool a4), .val (.int .i64 a5)]⟩, ⟨v1, .bytes l⟩] (pst (.val (.int .i64 (l.length / a1))) [⟨v0, .obj [.own 1 v1 1 0 l.length, .val (.int .i64 a1), .val (.int .i64 a2), .val (.int .i64 a3), .val (.bool a4), .val (.int .i64 a5)]⟩, ⟨v1, .bytes l⟩]) := by
 refine spec_entry tbOk Tryz.func74 rfl Tryz.ntmps74 Tryz.results74 ?_
 repeat (refine gos (k := ?_))
 intro _
 repeat (refine gos (k := ?_))
 conv => whnf
 conv => whnf
 refine draw_of (p := 2) tbOk hm [0, 1, 3, 7, 15, 0, 32, 96, 224, 511, 1023] [⟨0, false, false, []⟩, ⟨1, true, false, [7, 8, 9, 10, 11, 12, 13, 14, 2]⟩, ⟨2, true, false, [8, 9, 10, 11, 12, 13, 14, 2]⟩, ⟨3, true, false, [9, 10, 11, 12, 13, 14, 2]⟩, ⟨4, true, false, [10, 11, 12, 13, 14, 2]⟩, ⟨5, false, false, []⟩, ⟨6, true, false, [5, 6, 7, 8, 9, 12, 13, 14, 2]⟩, ⟨7, true, false, [5, 6, 7, 8, 9, 13, 14, 2]⟩, ⟨8, true, false, [5, 6, 7, 8, 9, 14, 2]⟩, ⟨9, false, false, []⟩, ⟨10, false, false, []⟩] (by kernel_rfl) ?_
 repeat (refine gos (k := ?_))
 exact ⟨_, rfl, rfl⟩
end Go.Proofs.YtmjpbmcbcppkfaaGreatDoor
namespace Go.Proofs.YtmjpbmcbcppkfaaGreatDoor
open Go.RowKit
set_option linter.unusedVariables false
set_option linter.unusedSimpArgs false
set_option maxRecDepth 100000
set_option maxHeartbeats 1500000
theorem erase_vc (x k : Nat) (l : List UInt8) (hl : l.length ≤ 140737488355328) (hk0 : 0 < k) (hx : x * k + k ≤ l.length) (hxs : (x : Int) < l.length / (k : Int)) (v0 v1 : Nat) (a2 a3 a5 : Int) (hA2 : I64 a2) (hA3 : 0 ≤ a3 ∧ I64 a3) (hA5 : 0 ≤ a5 ∧ a5 < 9223372036854775807) (d : Bool) (hd : d = if 0 < a2 then decide (a2 - 1 = 0) else false) : Spec Tryz.prog 150 [.ref 0 v0 6 0 0, .val (.int .i64 (x : Int))] [⟨v0, .obj [.own 1 v1 1 0 l.length, .val (.int .i64 (k : Int)), .val (.int .i64 a2), .val (.int .i64 a3), .val (.bool false), .val (.int .i64 a5)]⟩, ⟨v1, .bytes l⟩]
   (pst (.val (.int .i64 (if d then 6 else 0))) [⟨v0, .obj [.own 1 v1 1 0 l.length, .val (.int .i64 (k : Int)), .val (.int .i64 (if 0 < a2 then a2 - 1 else a2)), .val (.int .i64 a3), .val (.bool d), .val (.int .i64 (if d then a5 else a5 + 1))]⟩, ⟨v1, .bytes (if d then fillN l (x * k) (min a3 (k : Int)).toNat else fillN l (x * k) k)⟩]) := by
 have hxl : x ≤ l.length := Nat.le_trans (Nat.le_mul_of_pos_right x hk0) (by omega)
 have hmul : ((x : Int) + 1) * (k : Int) = (x : Int) * k + k := by rw [Int.add_mul, Int.one_mul]
 have hx' : (x : Int) * (k : Int) + k ≤ l.length := by exact_mod_cast hx
 have hx0 : 0 ≤ (x : Int) * (k : Int) := Int.mul_nonneg (by omega) (by omega)
 refine spec_entry tbOk Tryz.func150 rfl Tryz.ntmps150 Tryz.results150 ?_
 repeat (refine gos (k := ?_))
 refine call_det (begin_vc v0 v1 l k a2 a3 a5 false) Tryz.call205 [0, 1] rfl rfl (by decide) rfl ?_ ?_ ?_ ?_ ?_
 ·exact rowt
 ·exact rowt
 ·exact rowt
 ·exact rowt
 repeat (refine gos (k := ?_))
 intro _
 repeat (refine gos (k := ?_))
 (refine sts (k := ?_))
 refine ⟨fun hG => ⟨?_, ?_⟩, fun hG => absurd (decide_eq_false (by omega : ¬ (x : Int) < 0)) hG⟩
 ·dsimp only [gpOs, gpO, gpA, opnds, getA, getL, List.toList_toArray, List.map_cons, List.map_nil, List.cons_append, List.nil_append]
  simp [gpOs, gpO, gpA, hG]
 refine call_det (sectors_vc l hl v0 v1 k a2 a3 a5 false ⟨by omega, by omega, by omega⟩) Tryz.call74 [0, 1] rfl rfl (by decide) rfl ?_ ?_ ?_ ?_ ?_
 ·exact rowt
 ·exact rowt
 ·exact rowt
 ·exact rowt
 repeat (refine gos (k := ?_))
 intro _
 repeat (refine gos (k := ?_))
 (refine sts (k := ?_))
 (refine sts (k := ?_))
 refine draw_of (p := 2) tbOk hm [0, 1, 3, 7, 0, 0, 32, 96, 224, 496, 0, 1024, 0, 4096, 12288, 28672, 64512, 131071, 0, 524287] [⟨0, true, false, [23, 24, 25, 26, 27, 28, 29, 30, 31, 32, 33, 34, 35, 36, 37, 38, 39, 6]⟩, ⟨1, true, false, [24, 25, 26, 27, 28, 29, 30, 31, 32, 33, 34, 35, 36, 37, 38, 39, 6]⟩, ⟨2, true, false, [25, 26, 27, 28, 29, 30, 31, 32, 33, 34, 35, 36, 37, 38, 39, 6]⟩, ⟨3, true, false, [26, 27, 28, 29, 30, 31, 32, 33, 34, 35, 36, 37, 38, 39, 6]⟩, ⟨4, false, false, []⟩, ⟨5, true, false, [22, 23, 24, 25, 26, 28, 29, 30, 31, 32, 33, 34, 35, 36, 37, 38, 39, 6]⟩, ⟨6, true, false, [22, 23, 24, 25, 26, 29, 30, 31, 32, 33, 34, 35, 36, 37, 38, 39, 6]⟩, ⟨7, true, false, [22, 23, 24, 25, 26, 30, 31, 32, 33, 34, 35, 36, 37, 38, 39, 6]⟩, ⟨8, true, false, [22, 23, 24, 25, 26, 31, 32, 33, 34, 35, 36, 37, 38, 39, 6]⟩, ⟨9, false, false, []⟩, ⟨10, false, false, []⟩, ⟨11, false, false, []⟩, ⟨12, true, false, [22, 23, 24, 25, 26, 27, 28, 29, 30, 31, 32, 33, 35, 36, 37, 38, 39, 6]⟩, ⟨13, true, false, [22, 23, 24, 25, 26, 27, 28, 29, 30, 31, 32, 33, 36, 37, 38, 39, 6]⟩, ⟨14, true, false, [22, 23, 24, 25, 26, 27, 28, 29, 30, 31, 32, 33, 37, 38, 39, 6]⟩, ⟨15, true, false, [22, 23, 24, 25, 26, 27, 28, 29, 30, 31, 32, 33, 38, 39, 6]⟩, ⟨16, false, false, []⟩, ⟨17, true, false, [6]⟩, ⟨18, true, false, [22, 23, 24, 25, 26, 27, 28, 29, 30, 31, 32, 33, 34, 35, 36, 37, 38, 39]⟩, ⟨19, true, true, []⟩] (by kernel_rfl) ?_
 repeat (refine gos (k := ?_))
 refine call_det (write2 k l hl 1 1 1 v0 v1 (0 + ((x : Int) * (k : Int)).toNat) ((((x : Int) + 1) * (k : Int)).toNat - ((x : Int) * (k : Int)).toNat) (by omega) (by omega) a2 a3 a5 false hA2 hA5 d hd) Tryz.call207 [9, 4, 8, 0, 1] rfl rfl (by decide) rfl ?_ ?_ ?_ ?_ ?_
 ·exact rowt
 ·exact rowt
 ·exact rowt
 ·exact rowt
 have ho : 0 + ((x : Int) * (k : Int)).toNat = x * k := by rw [Nat.zero_add]; exact Int.toNat_natCast (x * k)
 rw [ho]
 cases d with
 | false =>
  repeat (refine gos (k := ?_))
  intro _
  repeat (refine gos (k := ?_))
  exact ⟨_, rfl, rfl⟩
 | true =>
  repeat (refine gos (k := ?_))
  refine ⟨fun _ => ?_, fun h => absurd h (by decide)⟩
  repeat (refine gos (k := ?_))
  (refine sts (k := ?_))
  (refine sts (k := ?_))
  refine draw_of (p := 2) tbOk hm [0, 0, 2, 6, 14, 0, 32, 96, 224, 510, 1023] [⟨0, true, false, [47, 48, 49, 50, 51, 52, 53, 54, 55, 56]⟩, ⟨1, true, false, [46, 48, 49, 50, 51, 52, 53, 54, 55, 56]⟩, ⟨2, true, false, [46, 49, 50, 51, 52, 53, 54, 55, 56]⟩, ⟨3, true, false, [46, 50, 51, 52, 53, 54, 55, 56]⟩, ⟨4, true, false, [46, 51, 52, 53, 54, 55, 56]⟩, ⟨5, true, false, [46, 47, 48, 49, 50, 52, 53, 54, 55, 56]⟩, ⟨6, true, false, [46, 47, 48, 49, 50, 53, 54, 55, 56]⟩, ⟨7, true, false, [46, 47, 48, 49, 50, 54, 55, 56]⟩, ⟨8, true, false, [46, 47, 48, 49, 50, 55, 56]⟩, ⟨9, false, false, []⟩, ⟨10, true, true, []⟩] (by kernel_rfl) ?_
  repeat (refine gos (k := ?_))
  refine call_det (er1_vc (min a3 (k : Int)).toNat l hl 1 v1 (x * k) ((((x : Int) + 1) * (k : Int)).toNat - ((x : Int) * (k : Int)).toNat) (by omega) (by omega)) Tryz.call206 [8, 1] rfl rfl (by decide) ?_ ?_ ?_ ?_ ?_ ?_
  ·simp only [renAs, renA, rl, rl.getN', evA, getA, getL, List.map_cons, List.map_nil, List.cons_append, List.nil_append]
   have hmn : ((min a3 (k : Int)).toNat : Int) = min a3 (k : Int) := Int.toNat_of_nonneg (by omega)
   rw [hmn]
   rfl
  ·exact rowt
  ·exact rowt
  ·exact rowt
  ·exact rowt
  repeat (refine gos (k := ?_))
  exact ⟨_, rfl, rfl⟩
end Go.Proofs.YtmjpbmcbcppkfaaGreatDoor
namespace Go.Proofs.YtmjpbmcbcppkfaaGreatDoor
open Go.RowKit
set_option linter.unusedVariables false
set_option linter.unusedSimpArgs false
set_option maxRecDepth 100000
set_option maxHeartbeats 1500000
theorem clone_vc (l : List UInt8) (hl : l.length ≤ 140737488355328) (v0 o n : Nat) (h : o + n ≤ l.length) : Spec Tryz.prog 58 [.own 0 v0 1 o n] [⟨v0, .bytes l⟩]
   (pms (.own 6 2 1 0 n) [⟨v0, .bytes l⟩] [(6, ⟨2, .bytes ((l.drop o).take n)⟩)]) := by
 refine spec_entryW tbOk Tryz.func58 rfl Tryz.ntmps58 Tryz.results58 ?_
 repeat (refine gos (k := ?_))
 intro b hb
 cases b with
 | true =>
  obtain rfl := hb rfl
  repeat (refine gos (k := ?_))
  refine ⟨fun _ => ?_, fun h => absurd h (by decide)⟩
  repeat (refine gos (k := ?_))
  refine ⟨_, leS_nil 6 2 (.bytes []) rfl (by decide) rfl (t' := [.any, .any, .own 6 2 1 0 0, .any, .any, .any, .any, .any]) ?_, ?_⟩
  ·simp [leTn, setD, setL, updH, evA, unA, getA, getL, constA, undefs, deads]
  repeat (refine gos (k := ?_))
  exact ⟨_, rfl, rfl, by simp [allM, getL]⟩
 | false =>
  repeat (refine gos (k := ?_))
  intro _
  repeat (refine gos (k := ?_))
  conv => whnf
  refine ⟨(l.drop o).take n, ?_⟩
  conv => whnf
  refine And.intro ?_ ?_
  ·refine ⟨rfl, ⟨rfl, rfl, h⟩, rfl, rfl, rfl, rfl, rfl, rfl, ?_, by decide⟩
   simp only [List.map_nil, List.length_nil, List.length_take, List.length_drop]
   omega
  repeat (refine gos (k := ?_))
  refine ⟨_, leS_refl _, ?_⟩
  repeat (refine gos (k := ?_))
  have : ((l.drop o).take n).length = n := by simp; omega
  refine ⟨_, ?_, rfl, rfl, trivial⟩
  simp only [retV, List.map_nil, List.length_nil, this, Nat.zero_add]
end Go.Proofs.YtmjpbmcbcppkfaaGreatDoor
namespace Go.Proofs.YtmjpbmcbcppkfaaGreatDoor
open Go.RowKit
set_option linter.unusedVariables false
set_option linter.unusedSimpArgs false
set_option maxRecDepth 100000
set_option maxHeartbeats 1500000
def progF : List UInt8 → Nat → List UInt8 → Int → Int → (Int × List UInt8 × Int × Bool × Int)
 | [], _, c, left, w => (0, c, left, false, w)
 | b :: m, k, c, left, w => if 0 < left ∧ left - 1 = 0 then (6, c, left - 1, true, w) else progF m (k + 1) (c.set k (c.getD k 0 &&& b)) (if 0 < left then left - 1 else left) (w + 1)
structure PS where
 i : Nat
 c : List UInt8
 left : Int
 w : Int
 e : Nat
 f : Nat
def progI (a : Int) (m : List UInt8) (z n v0 v1 : Nat) (a1 a3 : Int) (y : PS) : St := ⟨[.ref 0 v0 6 0 0, .val (.int .i64 a), .bs z m, .ref 5 1 1 0 0, .ref 6 1 1 0 0, .any, .any, .any, .any, .any, .any, .any, .any, .any, .any, .any, .any, .any, .any, .any, .any, .any, .bs z m, .val (.int .i64 m.length), .val (.int .i64 y.i), .any, .any, .any, .any, .any, .any, .any, .any, .any, .any, .any], [⟨v0, .obj [.own 1 v1 1 0 n, .val (.int .i64 a1), .val (.int .i64 y.left), .val (.int .i64 a3), .val (.bool false), .val (.int .i64 y.w)]⟩, ⟨v1, .bytes y.c⟩, ⟨0, .dead⟩, ⟨0, .dead⟩, ⟨0, .dead⟩, ⟨1, .obj [.ref 0 v0 6 0 0]⟩, ⟨1, .obj [.val (.int .i64 a)]⟩, ⟨0, .dead⟩, ⟨0, .dead⟩, ⟨0, .dead⟩, ⟨y.e, .dead⟩, ⟨y.f, .dead⟩, ⟨0, .dead⟩, ⟨0, .dead⟩, ⟨0, .dead⟩, ⟨0, .dead⟩, ⟨0, .dead⟩, ⟨0, .dead⟩, ⟨0, .dead⟩, ⟨0, .dead⟩, ⟨0, .dead⟩, ⟨0, .dead⟩, ⟨0, .dead⟩, ⟨0, .dead⟩, ⟨0, .dead⟩, ⟨0, .dead⟩, ⟨0, .dead⟩, ⟨0, .dead⟩, ⟨0, .dead⟩, ⟨0, .dead⟩, ⟨0, .dead⟩, ⟨0, .dead⟩, ⟨0, .dead⟩, ⟨0, .dead⟩, ⟨0, .dead⟩, ⟨0, .dead⟩, ⟨0, .dead⟩, ⟨0, .dead⟩]⟩
theorem prog_vc (a : Int) (ha : I64 a) (m : List UInt8) (hm : m.length ≤ 140737488355328) (z : Nat) (l : List UInt8) (hl : l.length ≤ 140737488355328) (v0 v1 : Nat) (a1 a2 a3 a5 : Int) (hA2 : I64 a2) (hA5 : 0 ≤ a5 ∧ a5 + m.length < 9223372036854775807) (hin : 0 ≤ a ∧ a + m.length ≤ l.length) (R : Int × List UInt8 × Int × Bool × Int) (hR : progF m a.toNat l a2 a5 = R) : Spec Tryz.prog 163 [.ref 0 v0 6 0 0, .val (.int .i64 a), .bs z m] [⟨v0, .obj [.own 1 v1 1 0 l.length, .val (.int .i64 a1), .val (.int .i64 a2), .val (.int .i64 a3), .val (.bool false), .val (.int .i64 a5)]⟩, ⟨v1, .bytes l⟩]
   (pst (.val (.int .i64 R.1)) [⟨v0, .obj [.own 1 v1 1 0 l.length, .val (.int .i64 a1), .val (.int .i64 R.2.2.1), .val (.int .i64 a3), .val (.bool R.2.2.2.1), .val (.int .i64 R.2.2.2.2)]⟩, ⟨v1, .bytes R.2.1⟩]) := by
 refine spec_entry tbOk Tryz.func163 rfl Tryz.ntmps163 Tryz.results163 ?_
 repeat (refine gos (k := ?_))
 refine call_det (begin_vc v0 v1 l a1 a2 a3 a5 false) Tryz.call205 [0, 1] rfl rfl (by decide) rfl ?_ ?_ ?_ ?_ ?_
 ·exact rowt
 ·exact rowt
 ·exact rowt
 ·exact rowt
 repeat (refine gos (k := ?_))
 intro _
 repeat (refine gos (k := ?_))
 refine call_det (within_vc a m.length ha ⟨by omega, by omega⟩ l hl v0 v1 a1 a2 a3 a5 false) Tryz.call217 [0, 1] rfl rfl (by decide) rfl ?_ ?_ ?_ ?_ ?_
 ·exact rowt
 ·exact rowt
 ·exact rowt
 ·exact rowt
 have hw : decide (0 ≤ a ∧ 0 ≤ (m.length : Int) ∧ a + m.length ≤ l.length) = true := by simp only [decide_eq_true_eq]; omega
 rw [hw]
 repeat (refine gos (k := ?_))
 intro _
 repeat (refine gos (k := ?_))
 conv => whnf
 conv => whnf
 refine loop_of (σ := {y : PS // y.i ≤ m.length ∧ y.c.length = l.length ∧ I64 y.left ∧ 0 ≤ y.w ∧ y.w + (m.length - y.i : Int) < 9223372036854775807 ∧ progF (m.drop y.i) (a.toNat + y.i) y.c y.left y.w = R}) (fun y => progI a m z l.length v0 v1 a1 a3 y.1) (fun y => m.length - y.1.i) ⟨⟨0, l, a2, a5, 0, 0⟩, by simp, rfl, hA2, hA5.1, by simp; omega, by simpa using hR⟩ ?_ ?_ ?_
 ·simp [progI, leT]
 ·simp [progI, leH]
 ·rintro ⟨⟨i, c, left, w, e, f⟩, h1, h2, h3, h4, h5, h6⟩
  simp only at h1 h2 h3 h4 h5 h6
  dsimp only [progI]
  repeat (refine gos (k := ?_))
  refine ⟨fun h => ?_, fun h => ?_⟩
  ·have hi : i < m.length := by have := of_decide_eq_true h; omega
   repeat (refine gos (k := ?_))
   have hdr : m.drop i = m.getD i 0 :: m.drop (i + 1) := by rw [List.drop_eq_getElem_cons hi, List.getD_eq_getElem?_getD, List.getElem?_eq_getElem hi]; rfl
   rw [hdr, progF] at h6
   obtain ⟨d, hd⟩ : ∃ d : Bool, d = (if 0 < left then decide (left - 1 = 0) else false) := ⟨_, rfl⟩
   have hw1 := write1 (i : Int) a (m.getD i 0) ⟨by omega, by omega⟩ ha c (by omega) hin.1 (by omega) (by omega) 1 1 (e + 1) (f + 1) v0 v1 a1 left a3 w false h3 ⟨h4, by omega⟩ d hd
   rw [h2] at hw1
   refine call_det hw1 Tryz.call207 [5, 6, 10, 11, 0, 1] rfl rfl (by decide) rfl ?_ ?_ ?_ ?_ ?_
   ·exact rowt
   ·exact rowt
   ·exact rowt
   ·exact rowt
   cases d with
   | true =>
    have hc : 0 < left ∧ left - 1 = 0 := by
     by_cases q : 0 < left
     ·rw [if_pos q] at hd; exact ⟨q, of_decide_eq_true hd.symm⟩
     ·rw [if_neg q] at hd; cases hd
    rw [if_pos hc] at h6
    subst h6
    repeat (refine gos (k := ?_))
    refine ⟨fun _ => ?_, fun h => absurd h (by decide)⟩
    repeat (refine gos (k := ?_))
    simp only [hc.1, ↓reduceIte]
    exact ⟨_, rfl, rfl⟩
   | false =>
    have hc : ¬ (0 < left ∧ left - 1 = 0) := by
     rintro ⟨q1, q2⟩
     rw [if_pos q1, q2] at hd; cases hd
    rw [if_neg hc] at h6
    repeat (refine gos (k := ?_))
    intro _
    repeat (refine gos (k := ?_))
    conv => whnf
    refine ⟨⟨⟨i + 1, c.set (a.toNat + i) (c.getD (a.toNat + i) 0 &&& m.getD i 0), (if 0 < left then left - 1 else left), w + 1, e + 1, f + 1⟩, ?_, ?_, ?_, ?_, ?_, ?_⟩, leS_of ?_ ?_, ?_⟩
    ·exact hi
    ·simp [h2]
    ·simp only [I64] at *; split <;> omega
    ·simp only; omega
    ·simp only; omega
    ·exact h6
    ·simp [progI, leT]
    ·rw [show (a + (i : Int)).toNat = a.toNat + i by omega]
     simp [progI, leH]
    ·show m.length - (i + 1) < m.length - i
     omega
  ·have hi : i = m.length := by have := of_decide_eq_false h; omega
   rw [hi, List.drop_length, progF] at h6
   subst h6
   repeat (refine gos (k := ?_))
   exact ⟨_, rfl, rfl⟩
end Go.Proofs.YtmjpbmcbcppkfaaGreatDoor
namespace Go.Proofs.YtmjpbmcbcppkfaaGreatDoor
open Go.RowKit
set_option linter.unusedVariables false
set_option linter.unusedSimpArgs false
set_option maxRecDepth 100000
set_option maxHeartbeats 1500000
structure FlS where
 l : List UInt8
 k : Nat
 ar : Int
 pt : Int
 dd : Bool
 wr : Int
def FlS.on (s : FlS) : Int × FlS := if s.dd then (0, ⟨s.l, s.k, 0, s.pt, false, s.wr⟩) else (12, s)
def FlS.read (s : FlS) (i n : Int) : Int × List UInt8 := if s.dd then (6, []) else if 0 ≤ i ∧ 0 ≤ n ∧ i + n ≤ s.l.length then (0, (s.l.drop i.toNat).take n.toNat) else (1, [])
def FlS.prog (s : FlS) (a : Int) (m : List UInt8) : Int × FlS := if s.dd then (6, s) else if 0 ≤ a ∧ a + m.length ≤ s.l.length then ((progF m a.toNat s.l s.ar s.wr).1, ⟨(progF m a.toNat s.l s.ar s.wr).2.1, s.k, (progF m a.toNat s.l s.ar s.wr).2.2.1, s.pt, (progF m a.toNat s.l s.ar s.wr).2.2.2.1, (progF m a.toNat s.l s.ar s.wr).2.2.2.2⟩) else (1, s)
def FlS.goes (s : FlS) : Bool := if 0 < s.ar then decide (s.ar - 1 = 0) else false
def FlS.erase (s : FlS) (x : Int) : Int × FlS := if s.dd then (6, s) else if 0 ≤ x ∧ x < s.l.length / (s.k : Int) then (if s.goes then 6 else 0, ⟨if s.goes then fillN s.l (x.toNat * s.k) (min s.pt (s.k : Int)).toNat else fillN s.l (x.toNat * s.k) s.k, s.k, if 0 < s.ar then s.ar - 1 else s.ar, s.pt, s.goes, if s.goes then s.wr else s.wr + 1⟩) else (1, s)
theorem progF_length : ∀ (m : List UInt8) (k : Nat) (c : List UInt8) (left w : Int), (progF m k c left w).2.1.length = c.length
 | [], _, _, _, _ => rfl
 | b :: m, k, c, left, w => by
  rw [progF]
  split
  ·rfl
  ·rw [progF_length m]; simp
theorem spec_dead (s : FlS) (v0 v1 : Nat) : Spec Tryz.prog 76 [.ref 0 v0 6 0 0] [⟨v0, .obj [.own 1 v1 1 0 s.l.length, .val (.int .i64 (s.k : Int)), .val (.int .i64 s.ar), .val (.int .i64 s.pt), .val (.bool s.dd), .val (.int .i64 s.wr)]⟩, ⟨v1, .bytes s.l⟩] (pst (.val (.bool s.dd)) [⟨v0, .obj [.own 1 v1 1 0 s.l.length, .val (.int .i64 (s.k : Int)), .val (.int .i64 s.ar), .val (.int .i64 s.pt), .val (.bool s.dd), .val (.int .i64 s.wr)]⟩, ⟨v1, .bytes s.l⟩]) := by
 obtain ⟨l, k, ar, pt, dd, wr⟩ := s
 refine spec_entry tbOk Tryz.func76 rfl Tryz.ntmps76 Tryz.results76 ?_
 refine gg (k := ?_)
 exact ⟨_, rfl, rfl⟩
theorem spec_size (s : FlS) (v0 v1 : Nat) : Spec Tryz.prog 75 [.ref 0 v0 6 0 0] [⟨v0, .obj [.own 1 v1 1 0 s.l.length, .val (.int .i64 (s.k : Int)), .val (.int .i64 s.ar), .val (.int .i64 s.pt), .val (.bool s.dd), .val (.int .i64 s.wr)]⟩, ⟨v1, .bytes s.l⟩] (pst (.val (.int .i64 (s.k : Int))) [⟨v0, .obj [.own 1 v1 1 0 s.l.length, .val (.int .i64 (s.k : Int)), .val (.int .i64 s.ar), .val (.int .i64 s.pt), .val (.bool s.dd), .val (.int .i64 s.wr)]⟩, ⟨v1, .bytes s.l⟩]) := by
 obtain ⟨l, k, ar, pt, dd, wr⟩ := s
 refine spec_entry tbOk Tryz.func75 rfl Tryz.ntmps75 Tryz.results75 ?_
 refine gg (k := ?_)
 exact ⟨_, rfl, rfl⟩
theorem spec_sectors (s : FlS) (hl : s.l.length ≤ 140737488355328) (hk : 0 < s.k ∧ s.k ≤ 65536) (v0 v1 : Nat) : Spec Tryz.prog 74 [.ref 0 v0 6 0 0] [⟨v0, .obj [.own 1 v1 1 0 s.l.length, .val (.int .i64 (s.k : Int)), .val (.int .i64 s.ar), .val (.int .i64 s.pt), .val (.bool s.dd), .val (.int .i64 s.wr)]⟩, ⟨v1, .bytes s.l⟩] (pst (.val (.int .i64 (s.l.length / (s.k : Int)))) [⟨v0, .obj [.own 1 v1 1 0 s.l.length, .val (.int .i64 (s.k : Int)), .val (.int .i64 s.ar), .val (.int .i64 s.pt), .val (.bool s.dd), .val (.int .i64 s.wr)]⟩, ⟨v1, .bytes s.l⟩]) :=
 sectors_vc s.l hl v0 v1 s.k s.ar s.pt s.wr s.dd ⟨by omega, by omega, by omega⟩
theorem spec_read (s : FlS) (hl : s.l.length ≤ 140737488355328) (i n : Int) (hi : I64 i) (hn : I64 n) (v0 v1 : Nat) : Spec Tryz.prog 203 [.ref 0 v0 6 0 0, .val (.int .i64 i), .val (.int .i64 n)] [⟨v0, .obj [.own 1 v1 1 0 s.l.length, .val (.int .i64 (s.k : Int)), .val (.int .i64 s.ar), .val (.int .i64 s.pt), .val (.bool s.dd), .val (.int .i64 s.wr)]⟩, ⟨v1, .bytes s.l⟩]
   (pms (.tup [.own 30 3 1 0 (s.read i n).2.length, .val (.int .i64 (s.read i n).1)]) [⟨v0, .obj [.own 1 v1 1 0 s.l.length, .val (.int .i64 (s.k : Int)), .val (.int .i64 s.ar), .val (.int .i64 s.pt), .val (.bool s.dd), .val (.int .i64 s.wr)]⟩, ⟨v1, .bytes s.l⟩] [(30, ⟨3, .bytes (s.read i n).2⟩)]) := by
 obtain ⟨l, k, ar, pt, dd, wr⟩ := s
 simp only at hl
 refine spec_entryW tbOk Tryz.func203 rfl Tryz.ntmps203 Tryz.results203 ?_
 refine gg (k := ?_)
 refine cdet (begin_vc v0 v1 l k ar pt wr dd) Tryz.call205 [0, 1] ?_
 cases dd with
 | true =>
  refine gg (k := ?_)
  refine ⟨_, leS_nil 30 3 (.bytes []) rfl (by decide) rfl (t' := [.any, .any, .any, .any, .any, .any, .own 30 3 1 0 0, .val (.int .i64 6), .any, .any, .any, .any, .any, .any, .any, .any, .any, .any, .any, .any, .any, .any, .any, .any, .any, .any, .any, .any, .any]) ?_, ?_⟩
  ·simp [leTn, setD, setL, updH, evA, unA, getA, getL, constA, undefs, deads]
  refine gg (k := ?_)
  exact ⟨_, rfl, rfl, rfl, trivial⟩
 | false =>
  refine gg (k := ?_)
  refine cdet (within_vc i n hi hn l hl v0 v1 k ar pt wr false) Tryz.call217 [0, 1] ?_
  by_cases hc : 0 ≤ i ∧ 0 ≤ n ∧ i + n ≤ l.length
  ·rw [decide_eq_true hc]
   refine gg (k := ?_)
   refine cmks (clone_vc l hl v1 (0 + i.toNat) ((i + n).toNat - i.toNat) (by omega)) Tryz.call58 1 [1, 0, 0, 0, 0, 0, 30] [0, 0, 0, 0, 0, 0, 1] [6] ?_
   refine gg (k := ?_)
   refine ⟨_, leS_refl _, ?_⟩
   refine gg (k := ?_)
   have e1 : (i + n).toNat - i.toNat = n.toNat := by omega
   have e2 : ((l.drop i.toNat).take n.toNat).length = n.toNat := by simp; omega
   simp only [FlS.read, if_pos hc, Bool.false_eq_true, if_false, e2]
   rw [Nat.zero_add, e1]
   exact ⟨_, rfl, rfl, rfl, trivial⟩
  ·rw [decide_eq_false hc]
   refine gg (k := ?_)
   refine ⟨_, leS_nil 30 3 (.bytes []) rfl (by decide) rfl (t' := [.any, .any, .any, .any, .any, .any, .own 30 3 1 0 0, .val (.int .i64 1), .any, .any, .any, .any, .any, .any, .any, .any, .any, .any, .any, .any, .any, .any, .any, .any, .any, .any, .any, .any, .any]) ?_, ?_⟩
   ·simp [leTn, setD, setL, updH, evA, unA, getA, getL, constA, undefs, deads]
   refine gg (k := ?_)
   simp only [FlS.read, if_neg hc, Bool.false_eq_true, if_false]
   exact ⟨_, rfl, rfl, rfl, trivial⟩
theorem spec_prog (s : FlS) (hl : s.l.length ≤ 140737488355328) (a : Int) (ha : I64 a) (m : List UInt8) (hm' : m.length ≤ 140737488355328) (hA2 : I64 s.ar) (hA5 : 0 ≤ s.wr ∧ s.wr + m.length < 9223372036854775807) (z : Nat) (v0 v1 : Nat) : Spec Tryz.prog 163 [.ref 0 v0 6 0 0, .val (.int .i64 a), .bs z m] [⟨v0, .obj [.own 1 v1 1 0 s.l.length, .val (.int .i64 (s.k : Int)), .val (.int .i64 s.ar), .val (.int .i64 s.pt), .val (.bool s.dd), .val (.int .i64 s.wr)]⟩, ⟨v1, .bytes s.l⟩]
   (pst (.val (.int .i64 (s.prog a m).1)) [⟨v0, .obj [.own 1 v1 1 0 (s.prog a m).2.l.length, .val (.int .i64 ((s.prog a m).2.k : Int)), .val (.int .i64 (s.prog a m).2.ar), .val (.int .i64 (s.prog a m).2.pt), .val (.bool (s.prog a m).2.dd), .val (.int .i64 (s.prog a m).2.wr)]⟩, ⟨v1, .bytes (s.prog a m).2.l⟩]) := by
 obtain ⟨l, k, ar, pt, dd, wr⟩ := s
 simp only at hl hA2 hA5
 by_cases hc : dd = false ∧ 0 ≤ a ∧ a + m.length ≤ l.length
 ·obtain ⟨rfl, hc⟩ := hc
  have := prog_vc a ha m hm' z l hl v0 v1 k ar pt wr hA2 hA5 hc _ rfl
  simp only [FlS.prog, if_pos hc, Bool.false_eq_true, if_false, progF_length]
  exact this
 refine spec_entry tbOk Tryz.func163 rfl Tryz.ntmps163 Tryz.results163 ?_
 refine gg (k := ?_)
 refine cdet (begin_vc v0 v1 l k ar pt wr dd) Tryz.call205 [0, 1] ?_
 cases dd with
 | true =>
  refine gg (k := ?_)
  exact ⟨_, rfl, rfl⟩
 | false =>
  have hc' : ¬ (0 ≤ a ∧ a + m.length ≤ l.length) := fun q => hc ⟨rfl, q⟩
  have hc2 : ¬ (0 ≤ a ∧ 0 ≤ (m.length : Int) ∧ a + m.length ≤ l.length) := fun q => hc' ⟨q.1, q.2.2⟩
  refine gg (k := ?_)
  refine cdet (within_vc a m.length ha ⟨by omega, by omega⟩ l hl v0 v1 k ar pt wr false) Tryz.call217 [0, 1] ?_
  rw [decide_eq_false hc2]
  refine gg (k := ?_)
  simp only [FlS.prog, if_neg hc', Bool.false_eq_true, if_false]
  exact ⟨_, rfl, rfl⟩
theorem spec_erase (s : FlS) (hl : s.l.length ≤ 140737488355328) (hk : 0 < s.k ∧ s.k ≤ 65536) (x : Int) (hx : I64 x) (hA2 : I64 s.ar) (hA3 : 0 ≤ s.pt ∧ I64 s.pt) (hA5 : 0 ≤ s.wr ∧ s.wr < 9223372036854775807) (v0 v1 : Nat) : Spec Tryz.prog 150 [.ref 0 v0 6 0 0, .val (.int .i64 x)] [⟨v0, .obj [.own 1 v1 1 0 s.l.length, .val (.int .i64 (s.k : Int)), .val (.int .i64 s.ar), .val (.int .i64 s.pt), .val (.bool s.dd), .val (.int .i64 s.wr)]⟩, ⟨v1, .bytes s.l⟩]
   (pst (.val (.int .i64 (s.erase x).1)) [⟨v0, .obj [.own 1 v1 1 0 (s.erase x).2.l.length, .val (.int .i64 ((s.erase x).2.k : Int)), .val (.int .i64 (s.erase x).2.ar), .val (.int .i64 (s.erase x).2.pt), .val (.bool (s.erase x).2.dd), .val (.int .i64 (s.erase x).2.wr)]⟩, ⟨v1, .bytes (s.erase x).2.l⟩]) := by
 obtain ⟨l, k, ar, pt, dd, wr⟩ := s
 simp only at hl hk hA2 hA3 hA5
 by_cases hc : dd = false ∧ 0 ≤ x ∧ x < l.length / (k : Int)
 ·obtain ⟨rfl, hc⟩ := hc
  obtain ⟨x', rfl⟩ := Int.eq_ofNat_of_zero_le hc.1
  have hxk : x' * k + k ≤ l.length := by
   have h1 : (x' : Int) + 1 ≤ l.length / (k : Int) := by omega
   have h2 := Int.mul_le_mul_of_nonneg_right h1 (show (0 : Int) ≤ k by omega)
   have h3 : (l.length : Int) / (k : Int) * k ≤ l.length := Int.ediv_mul_le _ (by omega)
   rw [Int.add_mul, Int.one_mul] at h2
   exact_mod_cast Int.le_trans h2 h3
  have := erase_vc x' k l hl hk.1 hxk hc.2 v0 v1 ar pt wr hA2 hA3 hA5 _ rfl
  have e1 : ∀ d : Bool, (if d then fillN l (x' * k) (min pt (k : Int)).toNat else fillN l (x' * k) k).length = l.length := by intro d; cases d <;> simp [fillN_length]
  have e2 : ((x' : Int)).toNat = x' := by omega
  simp only [FlS.erase, if_pos hc, Bool.false_eq_true, if_false, e1, e2, FlS.goes]
  exact this
 refine spec_entry tbOk Tryz.func150 rfl Tryz.ntmps150 Tryz.results150 ?_
 refine gg (k := ?_)
 refine cdet (begin_vc v0 v1 l k ar pt wr dd) Tryz.call205 [0, 1] ?_
 cases dd with
 | true =>
  refine gg (k := ?_)
  exact ⟨_, rfl, rfl⟩
 | false =>
  have hc' : ¬ (0 ≤ x ∧ x < l.length / (k : Int)) := fun q => hc ⟨rfl, q⟩
  refine gg (k := ?_)
  (refine sts (k := ?_))
  by_cases hx0 : x < 0
  ·refine And.intro (fun hG => absurd hG (by simp [hx0])) (fun hG => ?_)
   refine gg (k := ?_)
   simp only [FlS.erase, if_neg hc', Bool.false_eq_true, if_false]
   exact ⟨_, rfl, rfl⟩
  ·refine And.intro (fun hG => ?_) (fun hG => absurd (decide_eq_false hx0) hG)
   refine And.intro ?_ ?_
   ·dsimp only [gpOs, gpO, gpA, opnds, getA, getL, List.toList_toArray, List.map_cons, List.map_nil, List.cons_append, List.nil_append]
    simp [gpOs, gpO, gpA, hG]
   refine cdet (sectors_vc l hl v0 v1 k ar pt wr false ⟨by omega, by omega, by omega⟩) Tryz.call74 [0, 1] ?_
   refine gg (k := ?_)
   simp only [FlS.erase, if_neg hc', Bool.false_eq_true, if_false]
   exact ⟨_, rfl, rfl⟩
end Go.Proofs.YtmjpbmcbcppkfaaGreatDoor
