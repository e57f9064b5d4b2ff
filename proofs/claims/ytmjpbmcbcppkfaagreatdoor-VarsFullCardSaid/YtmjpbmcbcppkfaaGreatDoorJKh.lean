/- A variable, and the walks of vname.Split, keep.read, keep.Need. A step that loads out of an object under a guard. Conditions: the premises of each law. -/
import Derived.Test.YtmjpbmcbcppkfaaGreatDoorJKg
import Derived.Test.YtmjpbmcbcppkfaaGreatDoorJGa
import Derived.Test.YtmjpbmcbcppkfaaGreatDoorJGp
import Derived.Test.YtmjpbmcbcppkfaaGreatDoorJAw
namespace Go.Proofs.YtmjpbmcbcppkfaaGreatDoor
open Go.RowKit
set_option linter.unusedVariables false
set_option linter.unusedSimpArgs false
set_option maxRecDepth 100000
set_option maxHeartbeats 1500000
structure VarV where
 nm : ByteArray
 g : List UInt8
 at_ : Int
 t : Tm
 ow : List UInt8
 d : List UInt8
structure VarV.Ok (v : VarV) : Prop where
 nm : v.nm.size ≤ 140737488355328
 g : v.g.length = 16
 at_ : 0 ≤ v.at_ ∧ v.at_ ≤ 4294967295
 t : v.t.ok
 ow : v.ow.length = 32
 d : v.d.length ≤ 140737488355328
def varA (x : AV) (v : VarV) : List AV := [.val (.string v.nm), .val (bv (v.g.getD 0 0)), .val (bv (v.g.getD 1 0)), .val (bv (v.g.getD 2 0)), .val (bv (v.g.getD 3 0)), .val (bv (v.g.getD 4 0)), .val (bv (v.g.getD 5 0)), .val (bv (v.g.getD 6 0)), .val (bv (v.g.getD 7 0)), .val (bv (v.g.getD 8 0)), .val (bv (v.g.getD 9 0)), .val (bv (v.g.getD 10 0)), .val (bv (v.g.getD 11 0)), .val (bv (v.g.getD 12 0)), .val (bv (v.g.getD 13 0)), .val (bv (v.g.getD 14 0)), .val (bv (v.g.getD 15 0)), .val (.int .u32 v.at_), .val (.int .u16 v.t.y), .val (.int .u8 v.t.m), .val (.int .u8 v.t.d), .val (.int .u8 v.t.h), .val (.int .u8 v.t.mi), .val (.int .u8 v.t.s), .val (bv (v.ow.getD 0 0)), .val (bv (v.ow.getD 1 0)), .val (bv (v.ow.getD 2 0)), .val (bv (v.ow.getD 3 0)), .val (bv (v.ow.getD 4 0)), .val (bv (v.ow.getD 5 0)), .val (bv (v.ow.getD 6 0)), .val (bv (v.ow.getD 7 0)), .val (bv (v.ow.getD 8 0)), .val (bv (v.ow.getD 9 0)), .val (bv (v.ow.getD 10 0)), .val (bv (v.ow.getD 11 0)), .val (bv (v.ow.getD 12 0)), .val (bv (v.ow.getD 13 0)), .val (bv (v.ow.getD 14 0)), .val (bv (v.ow.getD 15 0)), .val (bv (v.ow.getD 16 0)), .val (bv (v.ow.getD 17 0)), .val (bv (v.ow.getD 18 0)), .val (bv (v.ow.getD 19 0)), .val (bv (v.ow.getD 20 0)), .val (bv (v.ow.getD 21 0)), .val (bv (v.ow.getD 22 0)), .val (bv (v.ow.getD 23 0)), .val (bv (v.ow.getD 24 0)), .val (bv (v.ow.getD 25 0)), .val (bv (v.ow.getD 26 0)), .val (bv (v.ow.getD 27 0)), .val (bv (v.ow.getD 28 0)), .val (bv (v.ow.getD 29 0)), .val (bv (v.ow.getD 30 0)), .val (bv (v.ow.getD 31 0)), x]
def laidV (v : VarV) : List UInt8 := leB 4 v.at_ ++ v.t.bytes ++ v.ow ++ v.d
theorem map_getD {α : Type 1} (f : UInt8 → α) (n : Nat) (l : List UInt8) (h : l.length = n) : l.map f = (List.range n).map fun i => f (l.getD i 0) := by
 apply List.ext_getElem
 ·simp [h]
 ·intro i h1 h2
  simp only [List.length_map] at h1
  simp [List.getD_eq_getElem?_getD, h1]
theorem numB_leB4 (y : Int) (hy : 0 ≤ y ∧ y ≤ 4294967295) : (numB (leB 4 y) : Int) = y := by
 obtain ⟨m, rfl⟩ : ∃ m : Nat, y = (m : Int) := ⟨y.toNat, by omega⟩
 rw [numB_leB]
 omega
theorem read_v (v : VarV) (hv : v.Ok) (hd6 : v.d.length ≤ 1000000) (ht : v.t.good) (z : Nat) : Spec Tryz.prog 40 [.val (.string v.nm), .agg (bytesA 16 v.g), .bs z (laidV v)] []
   (pms (.tup [.agg (varA (.own 38 3 1 0 v.d.length) v), .val (.int .i64 0)]) [] [(38, ⟨3, .bytes v.d⟩)]) := by
 obtain ⟨hnm, hg, ha, _, how, hd⟩ := hv
 have hT : v.t.bytes.length = 16 := by simp [Tm.bytes, leB_len]
 have hL4 := leB_len 4 v.at_
 have hlen : (laidV v).length = 52 + v.d.length := by unfold laidV; simp only [List.length_append, hT, hL4, how]
 have e4 : (laidV v).take 4 = leB 4 v.at_ := by unfold laidV; rw [List.append_assoc, List.append_assoc]; exact List.take_left' hL4
 have e20 : ((laidV v).take 20).drop 4 = v.t.bytes := by
  unfold laidV
  rw [List.append_assoc, List.append_assoc, ← List.append_assoc, List.take_left' (by rw [List.length_append, hT, hL4]), List.drop_left' hL4]
 have eo : ((laidV v).drop 20) = v.ow ++ v.d := by
  unfold laidV
  rw [List.append_assoc, List.drop_left' (by rw [List.length_append, hT, hL4])]
 have ed : (laidV v).drop 52 = v.d := by
  unfold laidV
  rw [List.drop_left' (by rw [List.length_append, List.length_append, hT, hL4, how])]
 refine spec_entry tbOk Tryz.func40 rfl Tryz.ntmps40 Tryz.results40 ?_
 refine gg (k := ?_)
 rw [hlen]
 refine gg (k := ?_)
 refine cdet (Get_vc (laidV v) (by omega) z 0 4 (by unfold I64; omega) (by unfold I64; omega) _ rfl) Tryz.call56 [] ?_
 rw [if_pos ⟨by decide, by decide, by decide, by rw [hlen]; omega⟩, show List.take (Int.toNat 4) (List.drop (Int.toNat 0) (laidV v)) = leB 4 v.at_ from e4, numB_leB4 _ ha]
 refine gg (k := ?_)
 rw [show List.drop (Int.toNat 4) (List.take (Int.toNat 20) (laidV v)) = v.t.bytes from e20]
 refine cdet (read_vc v.t ht z) Tryz.call57 (hX := ⟨⟨trivial, trivial, trivial, trivial, trivial, trivial, trivial⟩, trivial, trivial⟩) [] ?_
 refine gg (k := ?_)
 refine draw_of (p := 0) tbOk hm [0, 0, 0, 4, 0, 0, 32, 96, 255, 0, 1023] [⟨0, false, false, []⟩, ⟨1, true, false, [31, 33, 34, 35, 36, 37, 38, 39, 12]⟩, ⟨2, false, false, []⟩, ⟨3, true, false, [31, 32, 35, 36, 37, 38, 39, 12]⟩, ⟨4, true, false, [31, 32, 33, 34, 36, 37, 38, 39, 12]⟩, ⟨5, false, false, []⟩, ⟨6, true, false, [31, 32, 33, 34, 35, 38, 39, 12]⟩, ⟨9, true, false, [31, 32, 33, 34, 35, 36, 37, 38, 39]⟩, ⟨7, true, false, [31, 32, 33, 34, 35, 39, 12]⟩, ⟨8, true, false, [12]⟩, ⟨10, true, true, []⟩] (by kernel_rfl) ?_
 refine gg (k := ?_)
 rw [show List.drop (Int.toNat 52) (List.take (Int.toNat ((laidV v).length : Int)) (laidV v)) = v.d by rw [Int.toNat_natCast, List.take_length]; exact ed]
 refine cmks (clone0_vc v.d (by omega) z) Tryz.call58 0 [0, 0, 0, 0, 0, 38] [0, 0, 0, 0, 0, 1] [5] ?_
 refine gg (k := ?_)
 simp only [takeL, dropL, List.map_cons, List.map_nil, List.nil_append, List.cons_append, List.append_eq, Tm.cells, bytesA, List.range, List.range.loop, Nat.reduceAdd, List.length_cons, List.length_nil]
 refine draw_of (p := 0) tbOk hm [0, 1, 0, 4, 15] [⟨0, true, false, [41, 42, 43, 44]⟩, ⟨1, true, false, [42, 43, 44]⟩, ⟨2, false, false, []⟩, ⟨3, true, false, [40, 41, 44]⟩, ⟨4, true, true, []⟩] (by kernel_rfl) ?_
 refine gg (k := ?_)
 obtain ⟨X, hX⟩ : ∃ X, X = v.ow ++ v.d := ⟨_, rfl⟩
 have hX1 : min 32 X.length = 32 := by rw [hX, List.length_append, how]; omega
 have hX2 : X.take 32 = v.ow := by rw [hX]; exact List.take_left' how
 rw [show List.drop (Int.toNat 20) (List.take (Int.toNat ((laidV v).length : Int)) (laidV v)) = X by rw [Int.toNat_natCast, List.take_length, hX]; exact eo]
 conv => whnf
 rw [show ((32 : Nat) : Int).toNat - Int.toNat 0 = 32 from rfl]
 refine And.intro ⟨⟨rfl, rfl, Nat.le_of_ble_eq_true rfl, rfl, by rw [hX1]; decide⟩, trivial⟩ ?_
 rw [hX1, hX2, map_getD _ 32 v.ow how, show v.at_ % 4294967296 = v.at_ by omega]
 refine gg (k := ?_)
 exact ⟨_, rfl, rfl, rfl, trivial⟩
end Go.Proofs.YtmjpbmcbcppkfaaGreatDoor
namespace Go.Proofs.YtmjpbmcbcppkfaaGreatDoor
open Go.RowKit
set_option linter.unusedVariables false
theorem u8n_le (b : UInt8) : ((b.toNat : Nat) : Int) ≤ 255 := by have := b.toNat_lt; omega
theorem gosO {X A B : Prop} (hX : (A ∧ B) → X := by (intro h; (conv => whnf); (try dsimp only [setD, setL, updH, evA, unA, getA, getL, constA, pickB, undefs, deads, putA, flatA, takeL, dropL, renA, renAs, renB, intF, rl, rl.getN', usM, rngL, rngE, rl2, usK, entOf, Nat.add_zero, List.map_cons, List.map_nil, List.cons_append, List.nil_append, List.append_eq, List.length_cons, List.length_nil, Nat.reduceAdd, Nat.reduceSub, Nat.reduceMul, Nat.zero_add, zerosA]); (with_reducible exact h))) (hA : A := by (first | trivial | exact ⟨.inl rfl, trivial⟩ | exact ⟨.inr (fun h => nomatch h), trivial⟩ | exact ⟨.inr rfl, trivial⟩ | exact ⟨.inr rfl, .inr rfl, trivial⟩ | exact ⟨.inr rfl, .inr rfl, .inr rfl, trivial⟩ | exact ⟨.inr (fun h => nomatch h), .inr (fun h => nomatch h), trivial⟩ | exact ⟨.inr (fun h => nomatch h), .inr (fun h => nomatch h), .inr (fun h => nomatch h), trivial⟩ | exact ⟨.inr (fun h => nomatch h), .inr (fun h => nomatch h), .inr (fun h => nomatch h), .inr (fun h => nomatch h), trivial⟩ | exact ⟨.inr (fun h => nomatch h), .inr (fun h => nomatch h), .inr (fun h => nomatch h), .inr (fun h => nomatch h), .inr (fun h => nomatch h), trivial⟩ | ((try dsimp only [gpOs, gpO, gpA, opnds, getA, getL, List.toList_toArray, List.map_cons, List.map_nil, List.cons_append, List.nil_append, flatA, putA, takeL, dropL, onesA, oneA, curK]); first | trivial | (simp; done) | ((repeat' apply And.intro) <;> first | exact rfl | exact trivial | exact Nat.le_of_ble_eq_true rfl | omega) | (simp only [inK, I64, nn, IntKind.bits, u8_hi, u8_ahi, u8_ohi, u8_xhi, Bool.and_eq_true, Bool.or_eq_true, Bool.not_eq_true', decide_eq_true_eq, decide_eq_false_iff_not, eq_self, true_and, and_true, and_self, imp_self, implies_true] at * <;> omega) | (intro hG; (with_reducible refine And.intro ?_ ?_) <;> first | (simp [gpOs, gpO, gpA, hG]; done) | (simp [gpOs, gpO, gpA]; done) | ((repeat' apply And.intro) <;> first | exact rfl | exact trivial | assumption | exact Int.natCast_nonneg _ | exact u8n_le _ | (refine of_decide_eq_true ?_; exact rfl) | exact Nat.le_of_ble_eq_true rfl | omega) | ((try simp only [inK, I64, eq_self, true_and, and_true, and_self] at *); omega))))) (k : B) : X := hX ⟨hA, k⟩
theorem ggO {X Y : Prop} (hX : Wr Y → X := by (intro h; (repeat (first | refine gosO (k := ?_) | refine fun (_ : _ = false) => ?_ | refine ⟨fun (_ : true = true) => ?_, fun h => absurd h (by decide)⟩ | refine gtr (k := ?_))); (with_reducible exact h.o))) (k : Y) : X := hX ⟨k⟩
end Go.Proofs.YtmjpbmcbcppkfaaGreatDoor
