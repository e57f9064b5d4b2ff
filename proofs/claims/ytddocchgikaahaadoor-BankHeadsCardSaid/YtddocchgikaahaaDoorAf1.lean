/- Walks of flash: the device's writing. Conditions: none. -/
import Derived.Test.YtddocchgikaahaaDoorAw
import Derived.Test.YtddocchgikaahaaDoorAc
import Derived.Test.YtddocchgikaahaaDoorTb
namespace Go.Proofs.YtddocchgikaahaaDoor
open Go.RowKit
set_option linter.unusedVariables false
set_option linter.unusedSimpArgs false
set_option maxRecDepth 100000
theorem hm : Tryd.prog.follows .mixedOrders = true := by kernel_rfl
theorem p1_vc (i a : Int) (b : UInt8) (hi : I64 i) (ha : I64 a) (l : List UInt8) (hl : l.length ≤ 140737488355328) (h1 : 0 ≤ a) (h2 : 0 ≤ i) (h3 : a + i < l.length) (v0 v1 v2 v3 v4 v5 : Nat) (a1 a2 a3 a5 : Int) (a4 : Bool) : Spec Tryd.prog 60 [.ref 0 v0 1 0 0, .ref 1 v1 1 0 0, .ref 2 v2 1 0 0, .ref 3 v3 1 0 0]
   [⟨v0, .obj [.ref 4 v4 6 0 0]⟩, ⟨v1, .obj [.val (.int .i64 a)]⟩, ⟨v2, .obj [.val (.int .i64 i)]⟩, ⟨v3, .obj [.val (.int .u8 b.toNat)]⟩, ⟨v4, .obj [.own 5 v5 1 0 l.length, .val (.int .i64 a1), .val (.int .i64 a2), .val (.int .i64 a3), .val (.bool a4), .val (.int .i64 a5)]⟩, ⟨v5, .bytes l⟩]
   (pst (.tup []) [⟨v0, .obj [.ref 4 v4 6 0 0]⟩, ⟨v1, .obj [.val (.int .i64 a)]⟩, ⟨v2, .obj [.val (.int .i64 i)]⟩, ⟨v3, .obj [.val (.int .u8 b.toNat)]⟩, ⟨v4, .obj [.own 5 v5 1 0 l.length, .val (.int .i64 a1), .val (.int .i64 a2), .val (.int .i64 a3), .val (.bool a4), .val (.int .i64 a5)]⟩, ⟨v5, .bytes (l.set (a + i).toNat (l.getD (a + i).toNat 0 &&& b))⟩]) := by
  refine spec_entry tbOk Tryd.func60 rfl Tryd.ntmps60 Tryd.results60 ?_
  conv => whnf
  refine draw_of (p := 6) tbOk hm [0, 1, 3, 7, 0, 0, 48, 127, 255, 0, 1023, 2047, 4095] [⟨0, true, false, [5, 6, 7, 8, 9, 10, 11, 12, 13, 14, 15]⟩, ⟨1, true, false, [6, 7, 8, 9, 10, 11, 12, 13, 14, 15]⟩, ⟨2, true, false, [7, 8, 9, 10, 11, 12, 13, 14, 15]⟩, ⟨3, true, false, [8, 9, 10, 11, 12, 13, 14, 15]⟩, ⟨4, true, false, [4, 5, 6, 7, 9, 10, 11, 12, 13, 14, 15]⟩, ⟨5, true, false, [4, 5, 6, 7, 8, 10, 11, 12, 13, 14, 15]⟩, ⟨6, false, false, []⟩, ⟨7, true, false, [12, 13, 14, 15]⟩, ⟨8, true, false, [13, 14, 15]⟩, ⟨9, true, false, [4, 5, 6, 7, 8, 9, 10, 11, 12, 14, 15]⟩, ⟨10, false, false, []⟩, ⟨11, true, false, []⟩, ⟨12, true, true, []⟩] (by kernel_rfl) ?_
  repeat (refine gos (k := ?_))
  rw [u8_and, Nat.zero_add]
  exact ⟨_, rfl, rfl⟩
theorem write1 (i a : Int) (b : UInt8) (hi : I64 i) (ha : I64 a) (l : List UInt8) (hl : l.length ≤ 140737488355328) (h1 : 0 ≤ a) (h2 : 0 ≤ i) (h3 : a + i < l.length) (v0 v1 v2 v3 v4 v5 : Nat) (a1 a2 a3 a5 : Int) (a4 : Bool) (hA2 : I64 a2) (hA5 : 0 ≤ a5 ∧ a5 < 9223372036854775807) (d : Bool) (hd : d = if 0 < a2 then decide (a2 - 1 = 0) else a4) : Spec Tryd.prog 50 [.ref 4 v4 6 0 0, .clo 60 [.ref 0 v0 1 0 0, .ref 1 v1 1 0 0, .ref 2 v2 1 0 0, .ref 3 v3 1 0 0]]
   [⟨v0, .obj [.ref 4 v4 6 0 0]⟩, ⟨v1, .obj [.val (.int .i64 a)]⟩, ⟨v2, .obj [.val (.int .i64 i)]⟩, ⟨v3, .obj [.val (.int .u8 b.toNat)]⟩, ⟨v4, .obj [.own 5 v5 1 0 l.length, .val (.int .i64 a1), .val (.int .i64 a2), .val (.int .i64 a3), .val (.bool a4), .val (.int .i64 a5)]⟩, ⟨v5, .bytes l⟩]
   (pst (.val (.int .i64 (if d then 6 else 0))) [⟨v0, .obj [.ref 4 v4 6 0 0]⟩, ⟨v1, .obj [.val (.int .i64 a)]⟩, ⟨v2, .obj [.val (.int .i64 i)]⟩, ⟨v3, .obj [.val (.int .u8 b.toNat)]⟩, ⟨v4, .obj [.own 5 v5 1 0 l.length, .val (.int .i64 a1), .val (.int .i64 (if 0 < a2 then a2 - 1 else a2)), .val (.int .i64 a3), .val (.bool d), .val (.int .i64 (if d then a5 else a5 + 1))]⟩, ⟨v5, .bytes (if d then l else l.set (a + i).toNat (l.getD (a + i).toNat 0 &&& b))⟩]) := by
  refine spec_entry tbOk Tryd.func50 rfl Tryd.ntmps50 Tryd.results50 ?_
  repeat (refine gos (k := ?_))
  refine ⟨fun h => ?_, fun h => ?_⟩
  · repeat (refine gos (k := ?_))
    have e1 : 0 < a2 := of_decide_eq_true h
    refine ⟨fun h' => ?_, fun h' => ?_⟩
    · have e3 : d = true := by rw [hd, if_pos e1]; exact h'
      repeat (refine gos (k := ?_))
      simp only [e3, e1, h', ↓reduceIte]
      exact ⟨_, rfl, rfl⟩
    · have e3 : d = false := by rw [hd, if_pos e1]; exact h'
      repeat (refine gos (k := ?_))
      refine call_det (p1_vc i a b hi ha l hl h1 h2 h3 v0 v1 v2 v3 v4 v5 a1 (a2 - 1) a3 a5 (decide (a2 - 1 = 0))) Tryd.call60 [0, 1, 2, 3, 4, 5] rfl rfl (by decide) rfl ?_ ?_ ?_ ?_ ?_
      · exact rowt
      · exact rowt
      · exact rowt
      · exact rowt
      · repeat (refine gos (k := ?_))
        simp only [e3, e1, h', ↓reduceIte, Bool.false_eq_true]
        exact ⟨_, rfl, rfl⟩
  · have e1 : ¬ 0 < a2 := of_decide_eq_false h
    repeat (refine gos (k := ?_))
    refine ⟨fun h' => ?_, fun h' => ?_⟩
    · have e3 : d = true := by rw [hd, if_neg e1]; exact h'
      repeat (refine gos (k := ?_))
      simp only [e3, e1, h', ↓reduceIte]
      exact ⟨_, rfl, rfl⟩
    · have e3 : d = false := by rw [hd, if_neg e1]; exact h'
      repeat (refine gos (k := ?_))
      refine call_det (p1_vc i a b hi ha l hl h1 h2 h3 v0 v1 v2 v3 v4 v5 a1 a2 a3 a5 a4) Tryd.call60 [0, 1, 2, 3, 4, 5] rfl rfl (by decide) rfl ?_ ?_ ?_ ?_ ?_
      · exact rowt
      · exact rowt
      · exact rowt
      · exact rowt
      · repeat (refine gos (k := ?_))
        simp only [e3, e1, h', ↓reduceIte, Bool.false_eq_true]
        exact ⟨_, rfl, rfl⟩
theorem begin_vc (v0 v1 : Nat) (l : List UInt8) (a1 a2 a3 a5 : Int) (a4 : Bool) : Spec Tryd.prog 45 [.ref 0 v0 6 0 0] [⟨v0, .obj [.own 1 v1 1 0 l.length, .val (.int .i64 a1), .val (.int .i64 a2), .val (.int .i64 a3), .val (.bool a4), .val (.int .i64 a5)]⟩, ⟨v1, .bytes l⟩]
   (pst (.val (.int .i64 (if a4 then 6 else 0))) [⟨v0, .obj [.own 1 v1 1 0 l.length, .val (.int .i64 a1), .val (.int .i64 a2), .val (.int .i64 a3), .val (.bool a4), .val (.int .i64 a5)]⟩, ⟨v1, .bytes l⟩]) := by
  refine spec_entry tbOk Tryd.func45 rfl Tryd.ntmps45 Tryd.results45 ?_
  repeat (refine gos (k := ?_))
  intro _
  repeat (refine gos (k := ?_))
  refine ⟨fun h => ?_, fun h => ?_⟩
  · subst h
    repeat (refine gos (k := ?_))
    exact ⟨_, rfl, rfl⟩
  · subst h
    repeat (refine gos (k := ?_))
    exact ⟨_, rfl, rfl⟩
theorem within_vc (i n : Int) (hi : I64 i) (hn : I64 n) (l : List UInt8) (hl : l.length ≤ 140737488355328) (v0 v1 : Nat) (a1 a2 a3 a5 : Int) (a4 : Bool) : Spec Tryd.prog 59 [.ref 0 v0 6 0 0, .val (.int .i64 i), .val (.int .i64 n)] [⟨v0, .obj [.own 1 v1 1 0 l.length, .val (.int .i64 a1), .val (.int .i64 a2), .val (.int .i64 a3), .val (.bool a4), .val (.int .i64 a5)]⟩, ⟨v1, .bytes l⟩]
   (pst (.val (.bool (decide (0 ≤ i ∧ 0 ≤ n ∧ i + n ≤ l.length)))) [⟨v0, .obj [.own 1 v1 1 0 l.length, .val (.int .i64 a1), .val (.int .i64 a2), .val (.int .i64 a3), .val (.bool a4), .val (.int .i64 a5)]⟩, ⟨v1, .bytes l⟩]) := by
  refine spec_entry tbOk Tryd.func59 rfl Tryd.ntmps59 Tryd.results59 ?_
  repeat (refine gos (k := ?_))
  refine ⟨_, congrArg AV.val (congrArg Value.bool ?_), rfl⟩
  rw [Bool.eq_iff_iff]; simp; omega
end Go.Proofs.YtddocchgikaahaaDoor
