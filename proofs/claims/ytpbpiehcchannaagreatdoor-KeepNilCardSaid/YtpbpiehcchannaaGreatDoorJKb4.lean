/- Walks of slices.Max, stamp.Read. Conditions: none. -/
import Derived.Test.YtpbpiehcchannaaGreatDoorJKb3
namespace Go.Proofs.YtpbpiehcchannaaGreatDoor
open Go.RowKit
set_option linter.unusedVariables false
set_option linter.unusedSimpArgs false
set_option maxRecDepth 100000
set_option maxHeartbeats 1500000
theorem max0_vc (n z : Nat) (hn : 0 < n) (hb : n ≤ 140737488355328) : Spec Tryz.prog 178 [.bs z (List.replicate n 0)] [] (pst (.val (.int .u8 0)) []) := by
 have hl : (List.replicate n (0 : UInt8)).length = n := List.length_replicate
 refine spec_entry tbOk Tryz.func178 rfl Tryz.ntmps178 Tryz.results178 ?_
 refine gg (k := ?_)
 have hd : ∀ i : Int, (List.replicate n (0 : UInt8)).getD i.toNat 0 = 0 := by
  intro i
  rw [List.getD_eq_getElem?_getD, List.getElem?_replicate]
  split <;> rfl
 rw [hd, show (((0 : UInt8).toNat : Nat) : Int) = 0 from rfl]
 conv => whnf
 refine loop_at (fun i : Nat => i + 1 ≤ n) (fun i => n - i) 1 [3, 4, 12, 13, 14, 15, 16, 17, 18, 19, 20, 21, 22, 23] (fun i => [(3, .val (.int .u8 0)), (4, .val (.int .i64 ((i : Int) + 1)))]) (fun _ => []) 0 (by omega) ?_ ?_ ?_
 ·exact no_implicit_lambda% ten
 ·exact no_implicit_lambda% hen
 ·rintro i v h1
  refine glp (k := ?_)
  refine gg (k := ?_)
  refine ⟨fun h => ?_, fun h => ?_⟩
  ·have hi : i + 1 < n := by have := of_decide_eq_true h; rw [hl] at this; omega
   refine gg (k := ?_)
   rw [hd]
   refine back_at (i + 1) hi (by show n - (i + 1) < n - i; omega) ?_ ?_
   ·exact no_implicit_lambda% ten
   ·exact no_implicit_lambda% hen
  ·refine gg (k := ?_)
   exact ⟨_, rfl, rfl⟩
theorem numB_leB2 (y : Int) (hy : 0 ≤ y ∧ y ≤ 65535) : (numB (leB 2 y) : Int) = y := by
 have e : leB 2 y = [UInt8.ofNat (y % 256).toNat, UInt8.ofNat (y / 256 % 256).toNat] := by
  simp [leB, List.range_succ]
 rw [e]
 simp only [numB, UInt8.toNat_ofNat']
 omega
def Tm.good (t : Tm) : Prop := t.ok ∧ (t = ⟨0, 0, 0, 0, 0, 0⟩ ∨ t.right = true)
theorem read_vc (t : Tm) (ht : t.good) (z : Nat) : Spec Tryz.prog 143 [.bs z t.bytes] [] (pst (.tup [.agg t.cells, .val (.int .i64 0)]) []) := by
 obtain ⟨ho, hr⟩ := ht
 have hlen : t.bytes.length = 16 := by simp [Tm.bytes, leB_len]
 have hdr : t.bytes.drop 7 = List.replicate 9 0 := rfl
 refine spec_entry tbOk Tryz.func143 rfl Tryz.ntmps143 Tryz.results143 ?_
 refine gg (k := ?_)
 rw [hlen]
 conv => whnf
 refine gcl (hA := fun hG => ⟨trivial, hG, trivial⟩) (k := ?_)
 rw [show List.drop (Int.toNat 7) (List.take (((16 : Nat) : Int)).toNat t.bytes) = List.replicate 9 0 from rfl]
 refine cdet (max0_vc 9 z (by decide) (by decide)) Tryz.call178 [] ?_
 refine gg (k := ?_)
 refine cdet (Get_vc t.bytes (by omega) z 0 2 (by unfold I64; omega) (by unfold I64; omega) _ rfl) Tryz.call142 [] ?_
 rw [if_pos ⟨by decide, by decide, by decide, by rw [hlen]; decide⟩, show List.take (Int.toNat 2) (List.drop (Int.toNat 0) t.bytes) = leB 2 t.y from rfl, numB_leB2 t.y ho.1]
 refine gg (k := ?_)
 refine draw_of (p := 0) tbOk hm [0, 1, 0, 4, 12, 0, 32, 96, 0, 256, 768, 0, 2048, 6144, 0, 16384, 49152, 131071, 0, 524287] [⟨0, false, false, []⟩, ⟨1, true, false, [24, 25, 26, 27, 28, 29, 30, 31, 32, 33, 34, 35, 36, 37, 38, 39, 6]⟩, ⟨2, false, false, []⟩, ⟨3, true, false, [22, 23, 26, 27, 28, 29, 30, 31, 32, 33, 34, 35, 36, 37, 38, 39, 6]⟩, ⟨4, true, false, [22, 23, 27, 28, 29, 30, 31, 32, 33, 34, 35, 36, 37, 38, 39, 6]⟩, ⟨5, false, false, []⟩, ⟨6, true, false, [22, 23, 24, 25, 26, 29, 30, 31, 32, 33, 34, 35, 36, 37, 38, 39, 6]⟩, ⟨7, true, false, [22, 23, 24, 25, 26, 30, 31, 32, 33, 34, 35, 36, 37, 38, 39, 6]⟩, ⟨8, false, false, []⟩, ⟨9, true, false, [22, 23, 24, 25, 26, 27, 28, 29, 32, 33, 34, 35, 36, 37, 38, 39, 6]⟩, ⟨10, true, false, [22, 23, 24, 25, 26, 27, 28, 29, 33, 34, 35, 36, 37, 38, 39, 6]⟩, ⟨11, false, false, []⟩, ⟨12, true, false, [22, 23, 24, 25, 26, 27, 28, 29, 30, 31, 32, 35, 36, 37, 38, 39, 6]⟩, ⟨13, true, false, [22, 23, 24, 25, 26, 27, 28, 29, 30, 31, 32, 36, 37, 38, 39, 6]⟩, ⟨14, false, false, []⟩, ⟨15, true, false, [22, 23, 24, 25, 26, 27, 28, 29, 30, 31, 32, 33, 34, 35, 38, 39, 6]⟩, ⟨16, true, false, [22, 23, 24, 25, 26, 27, 28, 29, 30, 31, 32, 33, 34, 35, 39, 6]⟩, ⟨17, true, false, [6]⟩, ⟨18, true, false, [22, 23, 24, 25, 26, 27, 28, 29, 30, 31, 32, 33, 34, 35, 36, 37, 38, 39]⟩, ⟨19, true, true, []⟩] (by kernel_rfl) ?_
 refine gg (k := ?_)
 simp only [takeL, dropL, List.map_cons, List.map_nil, List.nil_append, List.cons_append]
 obtain ⟨⟨a1, a2⟩, ⟨b1, b2⟩, ⟨c1, c2⟩, ⟨d1, d2⟩, ⟨e1, e2⟩, f1, f2⟩ := id ho
 have hu : ∀ x : Int, 0 ≤ x → x ≤ 255 → (((u8 x).toNat : Nat) : Int) = x := by
  intro x h1 h2
  simp only [u8, UInt8.toNat_ofNat']
  omega
 rw [show t.bytes.getD (Int.toNat 2) 0 = u8 t.m from rfl, show t.bytes.getD (Int.toNat 3) 0 = u8 t.d from rfl, show t.bytes.getD (Int.toNat 4) 0 = u8 t.h from rfl, show t.bytes.getD (Int.toNat 5) 0 = u8 t.mi from rfl, show t.bytes.getD (Int.toNat 6) 0 = u8 t.s from rfl, hu _ b1 b2, hu _ c1 c2, hu _ d1 d2, hu _ e1 e2, hu _ f1 f2, show t.y % 65536 = t.y by omega]
 refine gg (k := ?_)
 conv => whnf
 rcases hr with hz | hR
 ·refine And.intro (fun h => ?_) (fun h => ?_)
  ·subst hz
   exact absurd h (by decide)
  ·have hG : (!eqVs [Value.int .u16 t.y, .int .u8 t.m, .int .u8 t.d, .int .u8 t.h, .int .u8 t.mi, .int .u8 t.s] [Value.int .u16 0, .int .u8 0, .int .u8 0, .int .u8 0, .int .u8 0, .int .u8 0]) = false := by subst hz; rfl
   rw [hG]
   refine gg (k := ?_)
   exact ⟨_, rfl, rfl⟩
 ·have hy : 1900 ≤ t.y := by
    unfold Tm.right at hR
    simp only [Bool.and_eq_true, decide_eq_true_eq] at hR
    omega
  have hG : (!eqVs [Value.int .u16 t.y, .int .u8 t.m, .int .u8 t.d, .int .u8 t.h, .int .u8 t.mi, .int .u8 t.s] [Value.int .u16 0, .int .u8 0, .int .u8 0, .int .u8 0, .int .u8 0, .int .u8 0]) = true := by
   have : decide (t.y = 0) = false := decide_eq_false (by omega)
   simp [eqVs, eqV, this]
  refine And.intro (fun h => And.intro ⟨trivial, h, trivial⟩ ?_) (fun h => absurd hG h)
  refine cdet (tright_vc t ho) Tryz.call108 (hon := ⟨⟨trivial, trivial, trivial, trivial, trivial, trivial, trivial⟩, trivial⟩) [] ?_
  rw [hR, hG]
  refine gg (k := ?_)
  exact ⟨_, rfl, rfl⟩
end Go.Proofs.YtpbpiehcchannaaGreatDoor
