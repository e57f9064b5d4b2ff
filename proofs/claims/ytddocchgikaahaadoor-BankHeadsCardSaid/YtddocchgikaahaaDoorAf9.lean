/- Walks of flash: Erase. Conditions: none. -/
import Derived.Test.YtddocchgikaahaaDoorAw
import Derived.Test.YtddocchgikaahaaDoorAf8
import Derived.Test.YtddocchgikaahaaDoorAf3
namespace Go.Proofs.YtddocchgikaahaaDoor
open Go.RowKit
set_option linter.unusedVariables false
set_option linter.unusedSimpArgs false
set_option maxRecDepth 100000
theorem erase_vc (x k : Nat) (l : List UInt8) (hl : l.length ≤ 140737488355328) (hk0 : 0 < k) (hx : x * k + k ≤ l.length) (hxs : (x : Int) < l.length / (k : Int)) (v0 v1 : Nat) (a2 a3 a5 : Int) (hA2 : I64 a2) (hA3 : 0 ≤ a3 ∧ I64 a3) (hA5 : 0 ≤ a5 ∧ a5 < 9223372036854775807) (d : Bool) (hd : d = if 0 < a2 then decide (a2 - 1 = 0) else false) : Spec Tryd.prog 34 [.ref 0 v0 6 0 0, .val (.int .i64 (x : Int))] [⟨v0, .obj [.own 1 v1 1 0 l.length, .val (.int .i64 (k : Int)), .val (.int .i64 a2), .val (.int .i64 a3), .val (.bool false), .val (.int .i64 a5)]⟩, ⟨v1, .bytes l⟩]
   (pst (.val (.int .i64 (if d then 6 else 0))) [⟨v0, .obj [.own 1 v1 1 0 l.length, .val (.int .i64 (k : Int)), .val (.int .i64 (if 0 < a2 then a2 - 1 else a2)), .val (.int .i64 a3), .val (.bool d), .val (.int .i64 (if d then a5 else a5 + 1))]⟩, ⟨v1, .bytes (if d then fillN l (x * k) (min a3 (k : Int)).toNat else fillN l (x * k) k)⟩]) := by
  have hxl : x ≤ l.length := Nat.le_trans (Nat.le_mul_of_pos_right x hk0) (by omega)
  have hmul : ((x : Int) + 1) * (k : Int) = (x : Int) * k + k := by rw [Int.add_mul, Int.one_mul]
  have hx' : (x : Int) * (k : Int) + k ≤ l.length := by exact_mod_cast hx
  have hx0 : 0 ≤ (x : Int) * (k : Int) := Int.mul_nonneg (by omega) (by omega)
  refine spec_entry tbOk Tryd.func34 rfl Tryd.ntmps34 Tryd.results34 ?_
  repeat (refine gos (k := ?_))
  refine call_det (begin_vc v0 v1 l k a2 a3 a5 false) Tryd.call45 [0, 1] rfl rfl (by decide) rfl ?_ ?_ ?_ ?_ ?_
  · exact rowt
  · exact rowt
  · exact rowt
  · exact rowt
  repeat (refine gos (k := ?_))
  intro _
  repeat (refine gos (k := ?_))
  (refine sts (k := ?_))
  refine ⟨fun hG => ⟨?_, ?_⟩, fun hG => absurd (decide_eq_false (by omega : ¬ (x : Int) < 0)) hG⟩
  · dsimp only [gpOs, gpO, gpA, opnds, getA, getL, List.toList_toArray, List.map_cons, List.map_nil, List.cons_append, List.nil_append]
    simp [gpOs, gpO, gpA, hG]
  refine call_det (sectors_vc l hl v0 v1 k a2 a3 a5 false ⟨by omega, by omega, by omega⟩) Tryd.call32 [0, 1] rfl rfl (by decide) rfl ?_ ?_ ?_ ?_ ?_
  · exact rowt
  · exact rowt
  · exact rowt
  · exact rowt
  repeat (refine gos (k := ?_))
  intro _
  repeat (refine gos (k := ?_))
  (refine sts (k := ?_))
  (refine sts (k := ?_))
  refine draw_of (p := 2) tbOk hm [0, 1, 3, 7, 0, 0, 32, 96, 224, 496, 0, 1024, 0, 4096, 12288, 28672, 64512, 131071, 0, 524287] [⟨0, true, false, [23, 24, 25, 26, 27, 28, 29, 30, 31, 32, 33, 34, 35, 36, 37, 38, 39, 6]⟩, ⟨1, true, false, [24, 25, 26, 27, 28, 29, 30, 31, 32, 33, 34, 35, 36, 37, 38, 39, 6]⟩, ⟨2, true, false, [25, 26, 27, 28, 29, 30, 31, 32, 33, 34, 35, 36, 37, 38, 39, 6]⟩, ⟨3, true, false, [26, 27, 28, 29, 30, 31, 32, 33, 34, 35, 36, 37, 38, 39, 6]⟩, ⟨4, false, false, []⟩, ⟨5, true, false, [22, 23, 24, 25, 26, 28, 29, 30, 31, 32, 33, 34, 35, 36, 37, 38, 39, 6]⟩, ⟨6, true, false, [22, 23, 24, 25, 26, 29, 30, 31, 32, 33, 34, 35, 36, 37, 38, 39, 6]⟩, ⟨7, true, false, [22, 23, 24, 25, 26, 30, 31, 32, 33, 34, 35, 36, 37, 38, 39, 6]⟩, ⟨8, true, false, [22, 23, 24, 25, 26, 31, 32, 33, 34, 35, 36, 37, 38, 39, 6]⟩, ⟨9, false, false, []⟩, ⟨10, false, false, []⟩, ⟨11, false, false, []⟩, ⟨12, true, false, [22, 23, 24, 25, 26, 27, 28, 29, 30, 31, 32, 33, 35, 36, 37, 38, 39, 6]⟩, ⟨13, true, false, [22, 23, 24, 25, 26, 27, 28, 29, 30, 31, 32, 33, 36, 37, 38, 39, 6]⟩, ⟨14, true, false, [22, 23, 24, 25, 26, 27, 28, 29, 30, 31, 32, 33, 37, 38, 39, 6]⟩, ⟨15, true, false, [22, 23, 24, 25, 26, 27, 28, 29, 30, 31, 32, 33, 38, 39, 6]⟩, ⟨16, false, false, []⟩, ⟨17, true, false, [6]⟩, ⟨18, true, false, [22, 23, 24, 25, 26, 27, 28, 29, 30, 31, 32, 33, 34, 35, 36, 37, 38, 39]⟩, ⟨19, true, true, []⟩] (by kernel_rfl) ?_
  repeat (refine gos (k := ?_))
  refine call_det (write2 k l hl 1 1 1 v0 v1 (0 + ((x : Int) * (k : Int)).toNat) ((((x : Int) + 1) * (k : Int)).toNat - ((x : Int) * (k : Int)).toNat) (by omega) (by omega) a2 a3 a5 false hA2 hA5 d hd) Tryd.call50 [9, 4, 8, 0, 1] rfl rfl (by decide) rfl ?_ ?_ ?_ ?_ ?_
  · exact rowt
  · exact rowt
  · exact rowt
  · exact rowt
  have ho : 0 + ((x : Int) * (k : Int)).toNat = x * k := by rw [Nat.zero_add]; exact Int.toNat_natCast (x * k)
  rw [ho]
  cases d with
  | false =>
    repeat (refine gos (k := ?_))
    intro _
    repeat (refine gos (k := ?_))
    exact ⟨_, rfl, rfl⟩
  | true =>
    repeat (refine gos (k := ?_))
    refine ⟨fun _ => ?_, fun h => absurd h (by decide)⟩
    repeat (refine gos (k := ?_))
    (refine sts (k := ?_))
    (refine sts (k := ?_))
    refine draw_of (p := 2) tbOk hm [0, 0, 2, 6, 14, 0, 32, 96, 224, 510, 1023] [⟨0, true, false, [47, 48, 49, 50, 51, 52, 53, 54, 55, 56]⟩, ⟨1, true, false, [46, 48, 49, 50, 51, 52, 53, 54, 55, 56]⟩, ⟨2, true, false, [46, 49, 50, 51, 52, 53, 54, 55, 56]⟩, ⟨3, true, false, [46, 50, 51, 52, 53, 54, 55, 56]⟩, ⟨4, true, false, [46, 51, 52, 53, 54, 55, 56]⟩, ⟨5, true, false, [46, 47, 48, 49, 50, 52, 53, 54, 55, 56]⟩, ⟨6, true, false, [46, 47, 48, 49, 50, 53, 54, 55, 56]⟩, ⟨7, true, false, [46, 47, 48, 49, 50, 54, 55, 56]⟩, ⟨8, true, false, [46, 47, 48, 49, 50, 55, 56]⟩, ⟨9, false, false, []⟩, ⟨10, true, true, []⟩] (by kernel_rfl) ?_
    repeat (refine gos (k := ?_))
    refine call_det (er1_vc (min a3 (k : Int)).toNat l hl 1 v1 (x * k) ((((x : Int) + 1) * (k : Int)).toNat - ((x : Int) * (k : Int)).toNat) (by omega) (by omega)) Tryd.call49 [8, 1] rfl rfl (by decide) ?_ ?_ ?_ ?_ ?_ ?_
    · simp only [renAs, renA, rl, rl.getN', evA, getA, getL, List.map_cons, List.map_nil, List.cons_append, List.nil_append]
      have hmn : ((min a3 (k : Int)).toNat : Int) = min a3 (k : Int) := Int.toNat_of_nonneg (by omega)
      rw [hmn]
      rfl
    · exact rowt
    · exact rowt
    · exact rowt
    · exact rowt
    repeat (refine gos (k := ?_))
    exact ⟨_, rfl, rfl⟩
end Go.Proofs.YtddocchgikaahaaDoor
