/- Walks of stamp: days, Right, Write. Conditions: none. -/
import Derived.Test.YtpbpiehcchannaaGreatDoorJGa
namespace Go.Proofs.YtpbpiehcchannaaGreatDoor
open Go.RowKit
set_option linter.unusedVariables false
set_option linter.unusedSimpArgs false
set_option maxRecDepth 100000
set_option maxHeartbeats 1500000
def daysN (y m : Int) : Int := if 13 ≤ m then 0 else if m = 2 ∧ y % 4 = 0 ∧ (¬ y % 100 = 0 ∨ y % 400 = 0) then 29 else [0, 31, 28, 31, 30, 31, 30, 31, 31, 30, 31, 30, 31].getD m.toNat 0
theorem days_vc (y m : Int) (hy : 0 ≤ y ∧ y ≤ 65535) (h_m : 0 ≤ m ∧ m ≤ 255) : Spec Tryz.prog 152 [.val (.int .u16 y), .val (.int .u8 m)] [] (pst (.val (.int .u8 (daysN y m))) []) := by
 refine spec_entry tbOk Tryz.func152 rfl Tryz.ntmps152 Tryz.results152 ?_
 refine gg (k := ?_)
 refine ⟨fun h => ?_, fun h => ?_⟩
 ·refine gg (k := ?_)
  refine ⟨_, congrArg AV.val (congrArg (Value.int IntKind.u8) ?_), rfl⟩
  have : 13 ≤ m := by simpa using h
  rw [daysN, if_pos this]
 ·refine gg (k := ?_)
  simp only [takeL, dropL, List.map_cons, List.map_nil, List.nil_append, List.cons_append]
  have h13 : ¬ 13 ≤ m := by simpa using h
  refine ⟨fun h => ?_, fun h => ?_⟩
  ·refine gg (k := ?_)
   refine ⟨_, congrArg AV.val (congrArg (Value.int IntKind.u8) ?_), rfl⟩
   simp only [Bool.and_eq_true, Bool.or_eq_true, Bool.not_eq_true', decide_eq_true_eq, decide_eq_false_iff_not] at h
   rw [daysN, if_neg h13, if_pos ⟨h.1.1, h.1.2, h.2⟩]
  ·refine gg (k := ?_)
   have hD : daysN y m = [0, 31, 28, 31, 30, 31, 30, 31, 31, 30, 31, 30, 31].getD m.toNat 0 := by
    rw [daysN, if_neg h13, if_neg]
    rintro ⟨q1, q2, q3⟩
    simp only [q1, q2, decide_true, Bool.true_and, Bool.or_eq_false_iff, Bool.not_eq_false', decide_eq_true_eq, decide_eq_false_iff_not] at h
    rcases q3 with q3 | q3
    ·exact q3 h.1
    ·exact h.2 q3
   rw [hD]
   have hc : m = 0 ∨ m = 1 ∨ m = 2 ∨ m = 3 ∨ m = 4 ∨ m = 5 ∨ m = 6 ∨ m = 7 ∨ m = 8 ∨ m = 9 ∨ m = 10 ∨ m = 11 ∨ m = 12 := by omega
   rcases hc with rfl | rfl | rfl | rfl | rfl | rfl | rfl | rfl | rfl | rfl | rfl | rfl | rfl
   all_goals
    refine gg (k := ?_)
    exact ⟨_, rfl, rfl⟩
structure Tm where
 y : Int
 m : Int
 d : Int
 h : Int
 mi : Int
 s : Int
def Tm.ok (t : Tm) : Prop := (0 ≤ t.y ∧ t.y ≤ 65535) ∧ (0 ≤ t.m ∧ t.m ≤ 255) ∧ (0 ≤ t.d ∧ t.d ≤ 255) ∧ (0 ≤ t.h ∧ t.h ≤ 255) ∧ (0 ≤ t.mi ∧ t.mi ≤ 255) ∧ (0 ≤ t.s ∧ t.s ≤ 255)
def Tm.cells (t : Tm) : List AV := [.val (.int .u16 t.y), .val (.int .u8 t.m), .val (.int .u8 t.d), .val (.int .u8 t.h), .val (.int .u8 t.mi), .val (.int .u8 t.s)]
def Tm.right (t : Tm) : Bool := decide (1900 ≤ t.y) && decide (t.y ≤ 9999) && (decide (0 < t.d) && decide (t.d ≤ daysN t.y t.m)) && decide (t.h < 24) && decide (t.mi < 60) && decide (t.s < 60)
theorem tright_vc (t : Tm) (ht : t.ok) : Spec Tryz.prog 108 [.agg t.cells] [] (pst (.val (.bool t.right)) []) := by
 refine spec_entry tbOk Tryz.func108 rfl Tryz.ntmps108 Tryz.results108 ?_
 refine gg (k := ?_)
 refine draw_of (p := 0) tbOk hm [0, 1, 3, 7, 15, 31, 15, 79, 15, 271, 975, 2047, 4095, 8191] [⟨0, true, false, [5, 6, 7, 8, 9, 10, 11, 12, 13, 14, 15, 16, 3]⟩, ⟨1, true, false, [6, 7, 8, 9, 10, 11, 12, 13, 14, 15, 16, 3]⟩, ⟨2, false, false, []⟩, ⟨3, false, false, []⟩, ⟨4, true, false, [9, 10, 11, 12, 13, 14, 15, 16, 3]⟩, ⟨5, true, false, [10, 11, 12, 13, 14, 15, 16, 3]⟩, ⟨6, true, false, [8, 9, 11, 12, 13, 14, 15, 16, 3]⟩, ⟨7, true, false, [8, 9, 12, 13, 14, 15, 16, 3]⟩, ⟨8, true, false, [8, 9, 10, 11, 13, 14, 15, 16, 3]⟩, ⟨9, true, false, [8, 9, 10, 11, 14, 15, 16, 3]⟩, ⟨10, true, false, [8, 9, 15, 16, 3]⟩, ⟨11, false, false, []⟩, ⟨12, false, false, []⟩, ⟨13, false, false, []⟩] (by kernel_rfl) ?_
 refine gg (k := ?_)
 conv => whnf
 refine And.intro (fun hG => And.intro ⟨trivial, hG, hG, trivial⟩ ?_) (fun hG => ?_)
 ·refine cdet (days_vc t.y t.m ht.1 ht.2.1) Tryz.call152 [] ?_
  refine gg (k := ?_)
  exact ⟨_, rfl, rfl⟩
 ·skip
  have h0 : decide (0 < t.d) = false := by
   cases h : decide (0 < t.d) with
   | true => exact absurd h hG
   | false => rfl
  refine gg (k := ?_)
  refine ⟨_, congrArg AV.val (congrArg Value.bool ?_), rfl⟩
  rw [Tm.right, h0]
  simp
end Go.Proofs.YtpbpiehcchannaaGreatDoor
