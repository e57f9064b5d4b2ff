/- Walks of flash: Program. Conditions: none. -/
import Derived.Test.YtddocchgikaahaaDoorAw
import Derived.Test.YtddocchgikaahaaDoorAf1
namespace Go.Proofs.YtddocchgikaahaaDoor
open Go.RowKit
set_option linter.unusedVariables false
set_option linter.unusedSimpArgs false
set_option maxRecDepth 100000
/-- what Program's loop comes to -/
def progF : List UInt8 → Nat → List UInt8 → Int → Int → (Int × List UInt8 × Int × Bool × Int)
  | [], _, c, left, w => (0, c, left, false, w)
  | b :: m, k, c, left, w => if 0 < left ∧ left - 1 = 0 then (6, c, left - 1, true, w) else progF m (k + 1) (c.set k (c.getD k 0 &&& b)) (if 0 < left then left - 1 else left) (w + 1)
structure PS where
  i : Nat
  c : List UInt8
  left : Int
  w : Int
  e : Nat
  f : Nat
def progI (a : Int) (m : List UInt8) (z n v0 v1 : Nat) (a1 a3 : Int) (y : PS) : St := ⟨[.ref 0 v0 6 0 0, .val (.int .i64 a), .bs z m, .ref 5 1 1 0 0, .ref 6 1 1 0 0, .any, .any, .any, .any, .any, .any, .any, .any, .any, .any, .any, .any, .any, .any, .any, .any, .any, .bs z m, .val (.int .i64 m.length), .val (.int .i64 y.i), .any, .any, .any, .any, .any, .any, .any, .any, .any, .any, .any], [⟨v0, .obj [.own 1 v1 1 0 n, .val (.int .i64 a1), .val (.int .i64 y.left), .val (.int .i64 a3), .val (.bool false), .val (.int .i64 y.w)]⟩, ⟨v1, .bytes y.c⟩, ⟨0, .dead⟩, ⟨0, .dead⟩, ⟨0, .dead⟩, ⟨1, .obj [.ref 0 v0 6 0 0]⟩, ⟨1, .obj [.val (.int .i64 a)]⟩, ⟨0, .dead⟩, ⟨0, .dead⟩, ⟨0, .dead⟩, ⟨y.e, .dead⟩, ⟨y.f, .dead⟩, ⟨0, .dead⟩, ⟨0, .dead⟩, ⟨0, .dead⟩, ⟨0, .dead⟩, ⟨0, .dead⟩, ⟨0, .dead⟩, ⟨0, .dead⟩, ⟨0, .dead⟩, ⟨0, .dead⟩, ⟨0, .dead⟩, ⟨0, .dead⟩, ⟨0, .dead⟩, ⟨0, .dead⟩, ⟨0, .dead⟩, ⟨0, .dead⟩, ⟨0, .dead⟩, ⟨0, .dead⟩, ⟨0, .dead⟩, ⟨0, .dead⟩, ⟨0, .dead⟩, ⟨0, .dead⟩, ⟨0, .dead⟩, ⟨0, .dead⟩, ⟨0, .dead⟩, ⟨0, .dead⟩, ⟨0, .dead⟩]⟩
theorem prog_vc (a : Int) (ha : I64 a) (m : List UInt8) (hm : m.length ≤ 140737488355328) (z : Nat) (l : List UInt8) (hl : l.length ≤ 140737488355328) (v0 v1 : Nat) (a1 a2 a3 a5 : Int) (hA2 : I64 a2) (hA5 : 0 ≤ a5 ∧ a5 + m.length < 9223372036854775807) (hin : 0 ≤ a ∧ a + m.length ≤ l.length) (R : Int × List UInt8 × Int × Bool × Int) (hR : progF m a.toNat l a2 a5 = R) : Spec Tryd.prog 46 [.ref 0 v0 6 0 0, .val (.int .i64 a), .bs z m] [⟨v0, .obj [.own 1 v1 1 0 l.length, .val (.int .i64 a1), .val (.int .i64 a2), .val (.int .i64 a3), .val (.bool false), .val (.int .i64 a5)]⟩, ⟨v1, .bytes l⟩]
   (pst (.val (.int .i64 R.1)) [⟨v0, .obj [.own 1 v1 1 0 l.length, .val (.int .i64 a1), .val (.int .i64 R.2.2.1), .val (.int .i64 a3), .val (.bool R.2.2.2.1), .val (.int .i64 R.2.2.2.2)]⟩, ⟨v1, .bytes R.2.1⟩]) := by
  refine spec_entry tbOk Tryd.func46 rfl Tryd.ntmps46 Tryd.results46 ?_
  repeat (refine gos (k := ?_))
  refine call_det (begin_vc v0 v1 l a1 a2 a3 a5 false) Tryd.call45 [0, 1] rfl rfl (by decide) rfl ?_ ?_ ?_ ?_ ?_
  · exact rowt
  · exact rowt
  · exact rowt
  · exact rowt
  repeat (refine gos (k := ?_))
  intro _
  repeat (refine gos (k := ?_))
  refine call_det (within_vc a m.length ha ⟨by omega, by omega⟩ l hl v0 v1 a1 a2 a3 a5 false) Tryd.call59 [0, 1] rfl rfl (by decide) rfl ?_ ?_ ?_ ?_ ?_
  · exact rowt
  · exact rowt
  · exact rowt
  · exact rowt
  have hw : decide (0 ≤ a ∧ 0 ≤ (m.length : Int) ∧ a + m.length ≤ l.length) = true := by simp only [decide_eq_true_eq]; omega
  rw [hw]
  repeat (refine gos (k := ?_))
  intro _
  repeat (refine gos (k := ?_))
  conv => whnf
  conv => whnf
  refine loop_of (σ := {y : PS // y.i ≤ m.length ∧ y.c.length = l.length ∧ I64 y.left ∧ 0 ≤ y.w ∧ y.w + (m.length - y.i : Int) < 9223372036854775807 ∧ progF (m.drop y.i) (a.toNat + y.i) y.c y.left y.w = R}) (fun y => progI a m z l.length v0 v1 a1 a3 y.1) (fun y => m.length - y.1.i) ⟨⟨0, l, a2, a5, 0, 0⟩, by simp, rfl, hA2, hA5.1, by simp; omega, by simpa using hR⟩ ?_ ?_ ?_
  · simp [progI, leT]
  · simp [progI, leH]
  · rintro ⟨⟨i, c, left, w, e, f⟩, h1, h2, h3, h4, h5, h6⟩
    simp only at h1 h2 h3 h4 h5 h6
    dsimp only [progI]
    repeat (refine gos (k := ?_))
    refine ⟨fun h => ?_, fun h => ?_⟩
    · have hi : i < m.length := by have := of_decide_eq_true h; omega
      repeat (refine gos (k := ?_))
      have hdr : m.drop i = m.getD i 0 :: m.drop (i + 1) := by rw [List.drop_eq_getElem_cons hi, List.getD_eq_getElem?_getD, List.getElem?_eq_getElem hi]; rfl
      rw [hdr, progF] at h6
      obtain ⟨d, hd⟩ : ∃ d : Bool, d = (if 0 < left then decide (left - 1 = 0) else false) := ⟨_, rfl⟩
      have hw1 := write1 (i : Int) a (m.getD i 0) ⟨by omega, by omega⟩ ha c (by omega) hin.1 (by omega) (by omega) 1 1 (e + 1) (f + 1) v0 v1 a1 left a3 w false h3 ⟨h4, by omega⟩ d hd
      rw [h2] at hw1
      refine call_det hw1 Tryd.call50 [5, 6, 10, 11, 0, 1] rfl rfl (by decide) rfl ?_ ?_ ?_ ?_ ?_
      · exact rowt
      · exact rowt
      · exact rowt
      · exact rowt
      cases d with
      | true =>
        have hc : 0 < left ∧ left - 1 = 0 := by
          by_cases q : 0 < left
          · rw [if_pos q] at hd; exact ⟨q, of_decide_eq_true hd.symm⟩
          · rw [if_neg q] at hd; cases hd
        rw [if_pos hc] at h6
        subst h6
        repeat (refine gos (k := ?_))
        refine ⟨fun _ => ?_, fun h => absurd h (by decide)⟩
        repeat (refine gos (k := ?_))
        simp only [hc.1, ↓reduceIte]
        exact ⟨_, rfl, rfl⟩
      | false =>
        have hc : ¬ (0 < left ∧ left - 1 = 0) := by
          rintro ⟨q1, q2⟩
          rw [if_pos q1, q2] at hd; cases hd
        rw [if_neg hc] at h6
        repeat (refine gos (k := ?_))
        intro _
        repeat (refine gos (k := ?_))
        conv => whnf
        refine ⟨⟨⟨i + 1, c.set (a.toNat + i) (c.getD (a.toNat + i) 0 &&& m.getD i 0), (if 0 < left then left - 1 else left), w + 1, e + 1, f + 1⟩, ?_, ?_, ?_, ?_, ?_, ?_⟩, leS_of ?_ ?_, ?_⟩
        · exact hi
        · simp [h2]
        · simp only [I64] at *; split <;> omega
        · simp only; omega
        · simp only; omega
        · exact h6
        · simp [progI, leT]
        · rw [show (a + (i : Int)).toNat = a.toNat + i by omega]
          simp [progI, leH]
        · show m.length - (i + 1) < m.length - i
          omega
    · have hi : i = m.length := by have := of_decide_eq_false h; omega
      rw [hi, List.drop_length, progF] at h6
      subst h6
      repeat (refine gos (k := ?_))
      exact ⟨_, rfl, rfl⟩
end Go.Proofs.YtddocchgikaahaaDoor
