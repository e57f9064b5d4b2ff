/- Walks of stamp: days, Right, Write. Walk of stamp: Write. Walks of slices.Max, stamp.Read. Walks of vname: Right, Key. Conditions: the premises of each law. -/
import Derived.Test.YtmjpbmcbcppkfaaGreatDoorJGa
import Derived.Test.YtmjpbmcbcppkfaaGreatDoorJAw
import Derived.Test.YtmjpbmcbcppkfaaGreatDoorJGf
namespace Go.Proofs.YtmjpbmcbcppkfaaGreatDoor
open Go.RowKit
set_option linter.unusedVariables false
set_option linter.unusedSimpArgs false
set_option maxRecDepth 100000
set_option maxHeartbeats 1500000
def daysN (y m : Int) : Int := if 13 ≤ m then 0 else if m = 2 ∧ y % 4 = 0 ∧ (¬ y % 100 = 0 ∨ y % 400 = 0) then 29 else [0, 31, 28, 31, 30, 31, 30, 31, 31, 30, 31, 30, 31].getD m.toNat 0
theorem days_vc (y m : Int) (hy : 0 ≤ y ∧ y ≤ 65535) (h_m : 0 ≤ m ∧ m ≤ 255) : Spec Tryz.prog 126 [.val (.int .u16 y), .val (.int .u8 m)] [] (pst (.val (.int .u8 (daysN y m))) []) := by
 refine spec_entry tbOk Tryz.func126 rfl Tryz.ntmps126 Tryz.results126 ?_
 refine gg (k := ?_)
 refine ⟨fun h => ?_, fun h => ?_⟩
 ·refine gg (k := ?_)
  refine ⟨_, congrArg AV.val (congrArg (Value.int IntKind.u8) ?_), rfl⟩
  have : 13 ≤ m := by simpa using h
  rw [daysN, if_pos this]
 ·refine gg (k := ?_)
  simp only [takeL, dropL, List.map_cons, List.map_nil, List.nil_append, List.cons_append]
  have h13 : ¬ 13 ≤ m := by simpa using h
  refine ⟨fun h => ?_, fun h => ?_⟩
  ·refine gg (k := ?_)
   refine ⟨_, congrArg AV.val (congrArg (Value.int IntKind.u8) ?_), rfl⟩
   simp only [Bool.and_eq_true, Bool.or_eq_true, Bool.not_eq_true', decide_eq_true_eq, decide_eq_false_iff_not] at h
   rw [daysN, if_neg h13, if_pos ⟨h.1.1, h.1.2, h.2⟩]
  ·refine gg (k := ?_)
   have hD : daysN y m = [0, 31, 28, 31, 30, 31, 30, 31, 31, 30, 31, 30, 31].getD m.toNat 0 := by
    rw [daysN, if_neg h13, if_neg]
    rintro ⟨q1, q2, q3⟩
    simp only [q1, q2, decide_true, Bool.true_and, Bool.or_eq_false_iff, Bool.not_eq_false', decide_eq_true_eq, decide_eq_false_iff_not] at h
    rcases q3 with q3 | q3
    ·exact q3 h.1
    ·exact h.2 q3
   rw [hD]
   have hc : m = 0 ∨ m = 1 ∨ m = 2 ∨ m = 3 ∨ m = 4 ∨ m = 5 ∨ m = 6 ∨ m = 7 ∨ m = 8 ∨ m = 9 ∨ m = 10 ∨ m = 11 ∨ m = 12 := by omega
   rcases hc with rfl | rfl | rfl | rfl | rfl | rfl | rfl | rfl | rfl | rfl | rfl | rfl | rfl
   all_goals
    refine gg (k := ?_)
    exact ⟨_, rfl, rfl⟩
structure Tm where
 y : Int
 m : Int
 d : Int
 h : Int
 mi : Int
 s : Int
def Tm.ok (t : Tm) : Prop := (0 ≤ t.y ∧ t.y ≤ 65535) ∧ (0 ≤ t.m ∧ t.m ≤ 255) ∧ (0 ≤ t.d ∧ t.d ≤ 255) ∧ (0 ≤ t.h ∧ t.h ≤ 255) ∧ (0 ≤ t.mi ∧ t.mi ≤ 255) ∧ (0 ≤ t.s ∧ t.s ≤ 255)
def Tm.cells (t : Tm) : List AV := [.val (.int .u16 t.y), .val (.int .u8 t.m), .val (.int .u8 t.d), .val (.int .u8 t.h), .val (.int .u8 t.mi), .val (.int .u8 t.s)]
def Tm.right (t : Tm) : Bool := decide (1900 ≤ t.y) && decide (t.y ≤ 9999) && (decide (0 < t.d) && decide (t.d ≤ daysN t.y t.m)) && decide (t.h < 24) && decide (t.mi < 60) && decide (t.s < 60)
theorem tright_vc (t : Tm) (ht : t.ok) : Spec Tryz.prog 96 [.agg t.cells] [] (pst (.val (.bool t.right)) []) := by
 refine spec_entry tbOk Tryz.func96 rfl Tryz.ntmps96 Tryz.results96 ?_
 refine gg (k := ?_)
 refine draw_of (p := 0) tbOk hm [0, 1, 3, 7, 15, 31, 15, 79, 15, 271, 975, 2047, 4095, 8191] [⟨0, true, false, [5, 6, 7, 8, 9, 10, 11, 12, 13, 14, 15, 16, 3]⟩, ⟨1, true, false, [6, 7, 8, 9, 10, 11, 12, 13, 14, 15, 16, 3]⟩, ⟨2, false, false, []⟩, ⟨3, false, false, []⟩, ⟨4, true, false, [9, 10, 11, 12, 13, 14, 15, 16, 3]⟩, ⟨5, true, false, [10, 11, 12, 13, 14, 15, 16, 3]⟩, ⟨6, true, false, [8, 9, 11, 12, 13, 14, 15, 16, 3]⟩, ⟨7, true, false, [8, 9, 12, 13, 14, 15, 16, 3]⟩, ⟨8, true, false, [8, 9, 10, 11, 13, 14, 15, 16, 3]⟩, ⟨9, true, false, [8, 9, 10, 11, 14, 15, 16, 3]⟩, ⟨10, true, false, [8, 9, 15, 16, 3]⟩, ⟨11, false, false, []⟩, ⟨12, false, false, []⟩, ⟨13, false, false, []⟩] (by kernel_rfl) ?_
 refine gg (k := ?_)
 conv => whnf
 refine And.intro (fun hG => And.intro ⟨trivial, hG, hG, trivial⟩ ?_) (fun hG => ?_)
 ·refine cdet (days_vc t.y t.m ht.1 ht.2.1) Tryz.call126 [] ?_
  refine gg (k := ?_)
  exact ⟨_, rfl, rfl⟩
 ·skip
  have h0 : decide (0 < t.d) = false := by
   cases h : decide (0 < t.d) with
   | true => exact absurd h hG
   | false => rfl
  refine gg (k := ?_)
  refine ⟨_, congrArg AV.val (congrArg Value.bool ?_), rfl⟩
  rw [Tm.right, h0]
  simp
end Go.Proofs.YtmjpbmcbcppkfaaGreatDoor
namespace Go.Proofs.YtmjpbmcbcppkfaaGreatDoor
open Go.RowKit
set_option linter.unusedVariables false
set_option linter.unusedSimpArgs false
set_option maxRecDepth 100000
set_option maxHeartbeats 1500000
def u8 (x : Int) : UInt8 := UInt8.ofNat x.toNat
theorem put_nil (x : Int) (hx : 0 ≤ x ∧ x ≤ 18446744073709551615) (n : Int) (hn : n = 1 ∨ n = 2 ∨ n = 4 ∨ n = 8) : Spec Tryz.prog 98 [.val (.slice none 0 0), .val (.int .u64 x), .val (.int .i64 n)] []
   (pms (.own 7 5 1 0 n.toNat) [] [(7, ⟨5, .bytes (leB n.toNat x)⟩)]) := by
 have h := spec_ro (Put_vc [] (by decide) 0 x hx n hn) trivial ⟨trivial, trivial⟩ (rows := []) (args := [.val (.slice none 0 0), .val (.int .u64 x), .val (.int .i64 n)]) (asL_cons as_nil (asL_cons as_val (asL_cons as_val asL_nil)))
 have e : (([] : List UInt8).length + n.toNat) = n.toNat := Nat.zero_add _
 rw [e] at h
 exact h
def Tm.bytes (t : Tm) : List UInt8 := leB 2 t.y ++ [u8 t.m, u8 t.d, u8 t.h, u8 t.mi, u8 t.s] ++ List.replicate 9 0
theorem write_raw (t : Tm) (ht : t.ok) : Spec Tryz.prog 99 [.agg t.cells] [] (pms (.own 7 8 1 0 16) [] [(7, ⟨8, .bytes t.bytes⟩)]) := by
 obtain ⟨⟨a1, a2⟩, ⟨b1, b2⟩, ⟨c1, c2⟩, ⟨d1, d2⟩, ⟨e1, e2⟩, f1, f2⟩ := ht
 refine spec_entryW tbOk Tryz.func99 rfl Tryz.ntmps99 Tryz.results99 ?_
 refine gg (k := ?_)
 refine draw_of (p := 0) tbOk hm [0, 1, 3, 7, 0, 16, 0, 64, 0, 256, 0, 1024, 0, 4096, 16368, 32767, 65535] [⟨0, true, false, [5, 6, 7, 8, 9, 10, 11, 12, 13, 14, 15, 16, 17, 18, 19, 3]⟩, ⟨1, true, false, [6, 7, 8, 9, 10, 11, 12, 13, 14, 15, 16, 17, 18, 19, 3]⟩, ⟨2, true, false, [7, 8, 9, 10, 11, 12, 13, 14, 15, 16, 17, 18, 19, 3]⟩, ⟨4, true, false, [4, 5, 6, 7, 9, 10, 11, 12, 13, 14, 15, 16, 17, 18, 19, 3]⟩, ⟨5, true, false, [4, 5, 6, 7, 10, 11, 12, 13, 14, 15, 16, 17, 18, 19, 3]⟩, ⟨6, true, false, [4, 5, 6, 7, 8, 9, 11, 12, 13, 14, 15, 16, 17, 18, 19, 3]⟩, ⟨7, true, false, [4, 5, 6, 7, 8, 9, 12, 13, 14, 15, 16, 17, 18, 19, 3]⟩, ⟨8, true, false, [4, 5, 6, 7, 8, 9, 10, 11, 13, 14, 15, 16, 17, 18, 19, 3]⟩, ⟨9, true, false, [4, 5, 6, 7, 8, 9, 10, 11, 14, 15, 16, 17, 18, 19, 3]⟩, ⟨10, true, false, [4, 5, 6, 7, 8, 9, 10, 11, 12, 13, 15, 16, 17, 18, 19, 3]⟩, ⟨11, true, false, [4, 5, 6, 7, 8, 9, 10, 11, 12, 13, 16, 17, 18, 19, 3]⟩, ⟨12, true, false, [4, 5, 6, 7, 8, 9, 10, 11, 12, 13, 14, 15, 17, 18, 19, 3]⟩, ⟨13, true, false, [4, 5, 6, 7, 8, 9, 10, 11, 12, 13, 14, 15, 18, 19, 3]⟩, ⟨14, false, false, [18]⟩, ⟨3, true, false, [8, 9, 10, 11, 12, 13, 14, 15, 16, 17, 18, 19, 3]⟩, ⟨15, true, true, [3]⟩, ⟨16, false, false, []⟩] (by kernel_rfl) ?_
 iterate 40 refine gos (k := ?_)
 conv => whnf
 refine And.intro ?_ ?_
 ·repeat' (first | exact rfl | exact trivial | exact b1 | exact b2 | exact c1 | exact c2 | exact d1 | exact d2 | exact e1 | exact e2 | exact f1 | exact f2 | exact Nat.le_of_ble_eq_true rfl | refine And.intro ?_ ?_)
 refine And.intro ?_ ?_
 ·exact ⟨.inl rfl, trivial⟩
 refine gg (k := ?_)
 have ey : t.y % 18446744073709551616 = t.y := by omega
 rw [ey]
 refine cmks (put_nil t.y (by omega) 2 (by omega)) Tryz.call98 0 [0, 0, 0, 0, 0, 0, 0, 7] [0, 0, 0, 0, 0, 0, 0, 1] [7] ?_
 refine gg (k := ?_)
 conv => whnf
 refine ⟨[u8 t.m, u8 t.d, u8 t.h, u8 t.mi, u8 t.s], ?_⟩
 conv => whnf
 have hl2 := leB_len 2 t.y
 refine And.intro ⟨rfl, ⟨rfl, rfl, Nat.le_of_ble_eq_true rfl⟩, rfl, rfl, rfl, rfl, rfl, rfl, Nat.le_of_ble_eq_true rfl, by decide⟩ ?_
 refine gg (k := ?_)
 conv => whnf
 refine ⟨List.replicate 9 0, ?_⟩
 conv => whnf
 refine And.intro ⟨rfl, ⟨by decide, by decide, by decide, rfl, rfl⟩, rfl, rfl, rfl, rfl, rfl, rfl, Nat.le_of_ble_eq_true rfl, by decide⟩ ?_
 refine gg (k := ?_)
 refine ⟨_, leS_refl _, ?_⟩
 refine gg (k := ?_)
 exact ⟨_, rfl, rfl, rfl, trivial⟩
end Go.Proofs.YtmjpbmcbcppkfaaGreatDoor
namespace Go.Proofs.YtmjpbmcbcppkfaaGreatDoor
open Go.RowKit
set_option linter.unusedVariables false
set_option linter.unusedSimpArgs false
set_option maxRecDepth 100000
set_option maxHeartbeats 1500000
theorem max0_vc (n z : Nat) (hn : 0 < n) (hb : n ≤ 140737488355328) : Spec Tryz.prog 95 [.bs z (List.replicate n 0)] [] (pst (.val (.int .u8 0)) []) := by
 have hl : (List.replicate n (0 : UInt8)).length = n := List.length_replicate
 refine spec_entry tbOk Tryz.func95 rfl Tryz.ntmps95 Tryz.results95 ?_
 refine gg (k := ?_)
 have hd : ∀ i : Int, (List.replicate n (0 : UInt8)).getD i.toNat 0 = 0 := by
  intro i
  rw [List.getD_eq_getElem?_getD, List.getElem?_replicate]
  split <;> rfl
 rw [hd, show (((0 : UInt8).toNat : Nat) : Int) = 0 from rfl]
 conv => whnf
 refine loop_at (fun i : Nat => i + 1 ≤ n) (fun i => n - i) 1 [3, 4, 12, 13, 14, 15, 16, 17, 18, 19, 20, 21, 22, 23] (fun i => [(3, .val (.int .u8 0)), (4, .val (.int .i64 ((i : Int) + 1)))]) (fun _ => []) 0 (by omega) ?_ ?_ ?_
 ·exact no_implicit_lambda% ten
 ·exact no_implicit_lambda% hen
 ·rintro i v h1
  refine glp (k := ?_)
  refine gg (k := ?_)
  refine ⟨fun h => ?_, fun h => ?_⟩
  ·have hi : i + 1 < n := by have := of_decide_eq_true h; rw [hl] at this; omega
   refine gg (k := ?_)
   rw [hd]
   refine back_at (i + 1) hi (by show n - (i + 1) < n - i; omega) ?_ ?_
   ·exact no_implicit_lambda% ten
   ·exact no_implicit_lambda% hen
  ·refine gg (k := ?_)
   exact ⟨_, rfl, rfl⟩
theorem numB_leB2 (y : Int) (hy : 0 ≤ y ∧ y ≤ 65535) : (numB (leB 2 y) : Int) = y := by
 have e : leB 2 y = [UInt8.ofNat (y % 256).toNat, UInt8.ofNat (y / 256 % 256).toNat] := by
  simp [leB, List.range_succ]
 rw [e]
 simp only [numB, UInt8.toNat_ofNat']
 omega
def Tm.good (t : Tm) : Prop := t.ok ∧ (t = ⟨0, 0, 0, 0, 0, 0⟩ ∨ t.right = true)
theorem read_vc (t : Tm) (ht : t.good) (z : Nat) : Spec Tryz.prog 57 [.bs z t.bytes] [] (pst (.tup [.agg t.cells, .val (.int .i64 0)]) []) := by
 obtain ⟨ho, hr⟩ := ht
 have hlen : t.bytes.length = 16 := by simp [Tm.bytes, leB_len]
 have hdr : t.bytes.drop 7 = List.replicate 9 0 := rfl
 refine spec_entry tbOk Tryz.func57 rfl Tryz.ntmps57 Tryz.results57 ?_
 refine gg (k := ?_)
 rw [hlen]
 conv => whnf
 refine gcl (hA := fun hG => ⟨trivial, hG, trivial⟩) (k := ?_)
 rw [show List.drop (Int.toNat 7) (List.take (((16 : Nat) : Int)).toNat t.bytes) = List.replicate 9 0 from rfl]
 refine cdet (max0_vc 9 z (by decide) (by decide)) Tryz.call95 [] ?_
 refine gg (k := ?_)
 refine cdet (Get_vc t.bytes (by omega) z 0 2 (by unfold I64; omega) (by unfold I64; omega) _ rfl) Tryz.call56 [] ?_
 rw [if_pos ⟨by decide, by decide, by decide, by rw [hlen]; decide⟩, show List.take (Int.toNat 2) (List.drop (Int.toNat 0) t.bytes) = leB 2 t.y from rfl, numB_leB2 t.y ho.1]
 refine gg (k := ?_)
 refine draw_of (p := 0) tbOk hm [0, 1, 0, 4, 12, 0, 32, 96, 0, 256, 768, 0, 2048, 6144, 0, 16384, 49152, 131071, 0, 524287] [⟨0, false, false, []⟩, ⟨1, true, false, [24, 25, 26, 27, 28, 29, 30, 31, 32, 33, 34, 35, 36, 37, 38, 39, 6]⟩, ⟨2, false, false, []⟩, ⟨3, true, false, [22, 23, 26, 27, 28, 29, 30, 31, 32, 33, 34, 35, 36, 37, 38, 39, 6]⟩, ⟨4, true, false, [22, 23, 27, 28, 29, 30, 31, 32, 33, 34, 35, 36, 37, 38, 39, 6]⟩, ⟨5, false, false, []⟩, ⟨6, true, false, [22, 23, 24, 25, 26, 29, 30, 31, 32, 33, 34, 35, 36, 37, 38, 39, 6]⟩, ⟨7, true, false, [22, 23, 24, 25, 26, 30, 31, 32, 33, 34, 35, 36, 37, 38, 39, 6]⟩, ⟨8, false, false, []⟩, ⟨9, true, false, [22, 23, 24, 25, 26, 27, 28, 29, 32, 33, 34, 35, 36, 37, 38, 39, 6]⟩, ⟨10, true, false, [22, 23, 24, 25, 26, 27, 28, 29, 33, 34, 35, 36, 37, 38, 39, 6]⟩, ⟨11, false, false, []⟩, ⟨12, true, false, [22, 23, 24, 25, 26, 27, 28, 29, 30, 31, 32, 35, 36, 37, 38, 39, 6]⟩, ⟨13, true, false, [22, 23, 24, 25, 26, 27, 28, 29, 30, 31, 32, 36, 37, 38, 39, 6]⟩, ⟨14, false, false, []⟩, ⟨15, true, false, [22, 23, 24, 25, 26, 27, 28, 29, 30, 31, 32, 33, 34, 35, 38, 39, 6]⟩, ⟨16, true, false, [22, 23, 24, 25, 26, 27, 28, 29, 30, 31, 32, 33, 34, 35, 39, 6]⟩, ⟨17, true, false, [6]⟩, ⟨18, true, false, [22, 23, 24, 25, 26, 27, 28, 29, 30, 31, 32, 33, 34, 35, 36, 37, 38, 39]⟩, ⟨19, true, true, []⟩] (by kernel_rfl) ?_
 refine gg (k := ?_)
 simp only [takeL, dropL, List.map_cons, List.map_nil, List.nil_append, List.cons_append]
 obtain ⟨⟨a1, a2⟩, ⟨b1, b2⟩, ⟨c1, c2⟩, ⟨d1, d2⟩, ⟨e1, e2⟩, f1, f2⟩ := id ho
 have hu : ∀ x : Int, 0 ≤ x → x ≤ 255 → (((u8 x).toNat : Nat) : Int) = x := by
  intro x h1 h2
  simp only [u8, UInt8.toNat_ofNat']
  omega
 rw [show t.bytes.getD (Int.toNat 2) 0 = u8 t.m from rfl, show t.bytes.getD (Int.toNat 3) 0 = u8 t.d from rfl, show t.bytes.getD (Int.toNat 4) 0 = u8 t.h from rfl, show t.bytes.getD (Int.toNat 5) 0 = u8 t.mi from rfl, show t.bytes.getD (Int.toNat 6) 0 = u8 t.s from rfl, hu _ b1 b2, hu _ c1 c2, hu _ d1 d2, hu _ e1 e2, hu _ f1 f2, show t.y % 65536 = t.y by omega]
 refine gg (k := ?_)
 conv => whnf
 rcases hr with hz | hR
 ·refine And.intro (fun h => ?_) (fun h => ?_)
  ·subst hz
   exact absurd h (by decide)
  ·have hG : (!eqVs [Value.int .u16 t.y, .int .u8 t.m, .int .u8 t.d, .int .u8 t.h, .int .u8 t.mi, .int .u8 t.s] [Value.int .u16 0, .int .u8 0, .int .u8 0, .int .u8 0, .int .u8 0, .int .u8 0]) = false := by subst hz; rfl
   rw [hG]
   refine gg (k := ?_)
   exact ⟨_, rfl, rfl⟩
 ·have hy : 1900 ≤ t.y := by
    unfold Tm.right at hR
    simp only [Bool.and_eq_true, decide_eq_true_eq] at hR
    omega
  have hG : (!eqVs [Value.int .u16 t.y, .int .u8 t.m, .int .u8 t.d, .int .u8 t.h, .int .u8 t.mi, .int .u8 t.s] [Value.int .u16 0, .int .u8 0, .int .u8 0, .int .u8 0, .int .u8 0, .int .u8 0]) = true := by
   have : decide (t.y = 0) = false := decide_eq_false (by omega)
   simp [eqVs, eqV, this]
  refine And.intro (fun h => And.intro ⟨trivial, h, trivial⟩ ?_) (fun h => absurd hG h)
  refine cdet (tright_vc t ho) Tryz.call96 (hon := ⟨⟨trivial, trivial, trivial, trivial, trivial, trivial, trivial⟩, trivial⟩) [] ?_
  rw [hR, hG]
  refine gg (k := ?_)
  exact ⟨_, rfl, rfl⟩
end Go.Proofs.YtmjpbmcbcppkfaaGreatDoor
namespace Go.Proofs.YtmjpbmcbcppkfaaGreatDoor
open Go.RowKit
set_option linter.unusedVariables false
set_option linter.unusedSimpArgs false
set_option maxRecDepth 100000
set_option maxHeartbeats 1500000
def okC (c : UInt8) : Bool := decide (33 ≤ c.toNat) && decide (c.toNat ≤ 126)
def rightN (s : ByteArray) : Bool := s.data.toList.all okC && (decide (1 ≤ s.size) && decide (s.size ≤ 64))
theorem right_vc (s : ByteArray) (hs : s.size ≤ 140737488355328) : Spec Tryz.prog 22 [.val (.string s)] [] (pst (.val (.bool (rightN s))) []) := by
 obtain ⟨l, hl⟩ : ∃ l, s.data.toList = l := ⟨_, rfl⟩
 have hz : s.size = l.length := by rw [← hl]; simp
 have hr : rightN s = (l.all okC && (decide (1 ≤ l.length) && decide (l.length ≤ 64))) := by unfold rightN; rw [hl, hz]
 rw [hr]
 refine spec_entry tbOk Tryz.func22 rfl Tryz.ntmps22 Tryz.results22 ?_
 refine gg (k := ?_)
 (refine sts (k := ?_))
 rw [hl, hz, show (Bd.bytes l).sz = 1 from rfl]
 conv => whnf
 refine loop_at (fun i : Nat => i ≤ l.length ∧ (l.take i).all okC = true) (fun i => l.length - i) 1 [2, 4, 8, 9, 10, 11, 12, 13, 14, 15, 16, 17, 18] (fun i => [(8, .val (.int .i64 i))]) (fun _ => []) 0 ⟨Nat.zero_le _, rfl⟩ ?_ ?_ ?_
 ·exact no_implicit_lambda% ten
 ·exact no_implicit_lambda% hen
 ·rintro i v ⟨h1, h2⟩
  refine glp (k := ?_)
  refine gg (k := ?_)
  refine ⟨fun h => ?_, fun h => ?_⟩
  ·have hi : i < l.length := by have := of_decide_eq_true h; omega
   refine gg (k := ?_)
   have hd : l.getD (0 + (i : Int).toNat) 0 = l[i] := by simp [hi]
   rw [hd]
   refine ⟨fun h => ?_, fun h => ?_⟩
   ·refine gg (k := ?_)
    refine ⟨_, congrArg AV.val (congrArg Value.bool ?_), rfl⟩
    have h0 : okC l[i] = false := by
     simp only [Bool.or_eq_true, decide_eq_true_eq] at h
     simp only [okC, Bool.and_eq_false_iff, decide_eq_false_iff_not]
     omega
    have h9 : l.all okC = false := by
     rw [List.all_eq_false]
     exact ⟨l[i], List.getElem_mem hi, by rw [h0]; decide⟩
    rw [h9]; rfl
   ·refine gg (k := ?_)
    have h0 : okC l[i] = true := by
     simp only [Bool.or_eq_false_iff, decide_eq_false_iff_not] at h
     simp only [okC, Bool.and_eq_true, decide_eq_true_eq]
     omega
    refine back_at (i + 1) ⟨by omega, by rw [List.take_succ_eq_append_getElem hi, List.all_append, h2]; simp [h0]⟩ (by show l.length - (i + 1) < l.length - i; omega) ?_ ?_
    ·exact no_implicit_lambda% ten
    ·exact no_implicit_lambda% hen
  ·refine gg (k := ?_)
   have hi : i = l.length := by have := of_decide_eq_false h; omega
   refine ⟨_, congrArg AV.val (congrArg Value.bool ?_), rfl⟩
   rw [hi, List.take_length] at h2
   rw [h2, hz]
   have e1 : decide ((1 : Int) ≤ (l.length : Int)) = decide (1 ≤ l.length) := by rw [decide_eq_decide]; omega
   have e2 : decide ((l.length : Int) ≤ 64) = decide (l.length ≤ 64) := by rw [decide_eq_decide]; omega
   rw [e1, e2, Bool.true_and]
theorem guid_eq (g : List UInt8) (hg : g.length = 16) : [g.getD 0 0, g.getD 1 0, g.getD 2 0, g.getD 3 0, g.getD 4 0, g.getD 5 0, g.getD 6 0, g.getD 7 0, g.getD 8 0, g.getD 9 0, g.getD 10 0, g.getD 11 0, g.getD 12 0, g.getD 13 0, g.getD 14 0, g.getD 15 0] = g := by
 match g, hg with
 | [_, _, _, _, _, _, _, _, _, _, _, _, _, _, _, _], _ => rfl
theorem guid_bs (g : List UInt8) (hg : g.length = 16) : List.map (fun n : Int => UInt8.ofNat n.toNat) [(((g.getD 0 0).toNat : Nat) : Int), (((g.getD 1 0).toNat : Nat) : Int), (((g.getD 2 0).toNat : Nat) : Int), (((g.getD 3 0).toNat : Nat) : Int), (((g.getD 4 0).toNat : Nat) : Int), (((g.getD 5 0).toNat : Nat) : Int), (((g.getD 6 0).toNat : Nat) : Int), (((g.getD 7 0).toNat : Nat) : Int), (((g.getD 8 0).toNat : Nat) : Int), (((g.getD 9 0).toNat : Nat) : Int), (((g.getD 10 0).toNat : Nat) : Int), (((g.getD 11 0).toNat : Nat) : Int), (((g.getD 12 0).toNat : Nat) : Int), (((g.getD 13 0).toNat : Nat) : Int), (((g.getD 14 0).toNat : Nat) : Int), (((g.getD 15 0).toNat : Nat) : Int)] = g := by
 refine Eq.trans ?_ (guid_eq g hg)
 simp
theorem okBytes_nat : ∀ (l : List UInt8), okBytes (l.map fun b => ((b.toNat : Nat) : Int))
 | [] => trivial
 | b :: l => ⟨⟨by show (0 : Int) ≤ ((b.toNat : Nat) : Int); omega, by show ((b.toNat : Nat) : Int) ≤ 255; have := b.toNat_lt; omega⟩, okBytes_nat l⟩
theorem key_no (s : ByteArray) (hs : s.size ≤ 140737488355328) (g : List UInt8) (hR : rightN s = false) : Spec Tryz.prog 38 [.val (.string s), .agg (bytesA 16 g)] []
   (pst (.tup [.val (.slice none 0 0), .val (.int .i64 1)]) []) := by
 refine spec_entry tbOk Tryz.func38 rfl Tryz.ntmps38 Tryz.results38 ?_
 refine gg (k := ?_)
 refine cdet (right_vc s hs) Tryz.call22 [] ?_
 rw [hR]
 refine gg (k := ?_)
 exact ⟨_, rfl, rfl⟩
theorem key_vc (s : ByteArray) (hs : s.size ≤ 140737488355328) (g : List UInt8) (hg : g.length = 16) (hR : rightN s = true) : Spec Tryz.prog 38 [.val (.string s), .agg (bytesA 16 g)] []
   (pms (.tup [.own 3 3 1 0 (16 + s.size), .val (.int .i64 0)]) [] [(3, ⟨3, .bytes (g ++ s.data.toList)⟩)]) := by
 obtain ⟨l, hl⟩ : ∃ l, s.data.toList = l := ⟨_, rfl⟩
 have hz : s.size = l.length := by rw [← hl]; simp
 refine spec_entryW tbOk Tryz.func38 rfl Tryz.ntmps38 Tryz.results38 ?_
 refine gg (k := ?_)
 refine cdet (right_vc s hs) Tryz.call22 [] ?_
 rw [hR]
 refine gg (k := ?_)
 conv => whnf
 refine And.intro ⟨rfl, ⟨okBytes_nat [g.getD 0 0, g.getD 1 0, g.getD 2 0, g.getD 3 0, g.getD 4 0, g.getD 5 0, g.getD 6 0, g.getD 7 0, g.getD 8 0, g.getD 9 0, g.getD 10 0, g.getD 11 0, g.getD 12 0, g.getD 13 0, g.getD 14 0, g.getD 15 0], rfl, rfl⟩, rfl, rfl, rfl, by decide, by decide, by decide, by decide⟩ ?_
 rw [guid_bs g hg]
 refine gg (k := ?_)
 conv => whnf
 refine ⟨s.data.toList, ?_⟩
 conv => whnf
 rw [hl]
 have hR2 : l.length ≤ 64 := by
  unfold rightN at hR
  simp only [Bool.and_eq_true, decide_eq_true_eq] at hR
  omega
 refine And.intro ⟨rfl, trivial, rfl, rfl, rfl, hg.symm, rfl, rfl, (by simp only [hg]; omega), by decide⟩ ?_
 refine gg (k := ?_)
 refine ⟨_, leS_refl _, ?_⟩
 refine gg (k := ?_)
 refine ⟨_, ?_, rfl, rfl, trivial⟩
 rw [← hg, hz]
 rfl
end Go.Proofs.YtmjpbmcbcppkfaaGreatDoor
