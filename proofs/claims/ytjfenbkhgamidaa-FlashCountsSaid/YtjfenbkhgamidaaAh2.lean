/- Walks of lintellaw07: vast. Conditions: none. -/
import Derived.Test.YtjfenbkhgamidaaAh1
import Derived.Test.YtjfenbkhgamidaaAw
namespace Go.Proofs.Ytjfenbkhgamidaa
open Go.RowKit
set_option linter.unusedVariables false
set_option linter.unusedSimpArgs false
set_option maxRecDepth 100000
def sumB : List OpR → Nat
  | [] => 0
  | o :: l => min o.b.length 131072 + sumB l
theorem sumB_append : ∀ (a b : List OpR), sumB (a ++ b) = sumB a + sumB b
  | [], b => by simp [sumB]
  | x :: a, b => by simp [sumB, sumB_append a b]; omega
theorem sumB_take {l : List OpR} {i : Nat} (h : i < l.length) (d : OpR) : sumB (l.take (i + 1)) = sumB (l.take i) + min (l.getD i d).b.length 131072 := by
  rw [List.take_succ_eq_append_getElem h, sumB_append, List.getD_eq_getElem?_getD, List.getElem?_eq_getElem h]
  simp [sumB]
theorem sumB_le {l : List OpR} (i : Nat) : sumB (l.take i) ≤ sumB l := by
  have := congrArg sumB (List.take_append_drop i l)
  rw [sumB_append] at this
  omega
def vastF (x y : Int) (l : List OpR) : Bool := decide (150 < l.length ∨ 64 < x ∨ 2048 < y ∨ 8 < x ∧ 64 < y) || decide (32768 < sumB l)
def op0 : OpR := ⟨0, 0, 0, []⟩
def vastI (x y : Int) (l : List OpR) (i : Nat) : St := ⟨[.val (.int .i64 x), .val (.int .i64 y), .sl 0 4 opA ⟨0, 0, 0, []⟩ l, .any, .any, .any, .any, .val (.int .i64 (sumB (l.take i))), .val (.int .i64 i), .any, .any, .any, .any, .any, .any, .any, .any, .any, .any, .any, .any, .any, .any, .any, .any, .any, .any, .any, .any, .any, .any, .any, .any, .any, .any, .any, .any, .any, .any, .any, .any, .any, .any, .any, .any], [⟨0, .dead⟩, ⟨0, .dead⟩, ⟨0, .dead⟩, ⟨0, .dead⟩, ⟨0, .dead⟩, ⟨0, .dead⟩, ⟨0, .dead⟩, ⟨0, .dead⟩, ⟨0, .dead⟩, ⟨0, .dead⟩, ⟨0, .dead⟩, ⟨0, .dead⟩, ⟨0, .dead⟩, ⟨0, .dead⟩, ⟨0, .dead⟩, ⟨0, .dead⟩, ⟨0, .dead⟩, ⟨0, .dead⟩, ⟨0, .dead⟩, ⟨0, .dead⟩, ⟨0, .dead⟩, ⟨0, .dead⟩, ⟨0, .dead⟩, ⟨0, .dead⟩, ⟨0, .dead⟩, ⟨0, .dead⟩, ⟨0, .dead⟩, ⟨0, .dead⟩, ⟨0, .dead⟩, ⟨0, .dead⟩, ⟨0, .dead⟩, ⟨0, .dead⟩, ⟨0, .dead⟩, ⟨0, .dead⟩, ⟨0, .dead⟩, ⟨0, .dead⟩, ⟨0, .dead⟩, ⟨0, .dead⟩, ⟨0, .dead⟩, ⟨0, .dead⟩, ⟨0, .dead⟩, ⟨0, .dead⟩, ⟨0, .dead⟩, ⟨0, .dead⟩, ⟨0, .dead⟩]⟩
theorem vast_vc (x y : Int) (hx : I64 x) (hy : I64 y) (l : List OpR) : Spec Try.prog 6 [.val (.int .i64 x), .val (.int .i64 y), .sl 0 4 opA ⟨0, 0, 0, []⟩ l] [] (pms (.val (.bool (vastF x y l))) [] []) := by
  refine spec_entry tbOk Try.func6 rfl Try.ntmps6 Try.results6 ?_
  (repeat (first | refine gos (k := ?_) | refine fun (_ : _ = false) => ?_ | refine ⟨fun (_ : true = true) => ?_, fun h => absurd h (by decide)⟩ | refine gtr (k := ?_)))
  refine And.intro (fun h => ?_) (fun h => ?_)
  · have hv : vastF x y l = true := by
      simp only [vastF, Bool.or_eq_true, decide_eq_true_eq, Bool.and_eq_true] at h ⊢
      omega
    rw [hv]
    (repeat (first | refine gos (k := ?_) | refine fun (_ : _ = false) => ?_ | refine ⟨fun (_ : true = true) => ?_, fun h => absurd h (by decide)⟩ | refine gtr (k := ?_)))
    exact ⟨_, rfl, rfl, trivial⟩
  · have hn : l.length ≤ 150 := by
      simp only [Bool.or_eq_false_iff, decide_eq_false_iff_not] at h
      omega
    (repeat (first | refine gos (k := ?_) | refine fun (_ : _ = false) => ?_ | refine ⟨fun (_ : true = true) => ?_, fun h => absurd h (by decide)⟩ | refine gtr (k := ?_)))
    (refine sts (k := ?_))
    (refine sts (k := ?_))
    refine loop_of (σ := {i : Nat // i ≤ l.length ∧ sumB (l.take i) ≤ 32768}) (fun i => vastI x y l i.1) (fun i => l.length - i.1) ⟨0, Nat.zero_le _, by simp [sumB]⟩ ?_ ?_ ?_
    · simp [vastI, sumB, leT, setD, setL, updH, evA, unA, getA, getL, constA, undefs, deads]
    · simp [vastI, leH, setD, setL, updH, evA, unA, getA, getL, constA, undefs, deads]
    · rintro ⟨i, i1, i2⟩
      dsimp only [vastI]
      (repeat (first | refine gos (k := ?_) | refine fun (_ : _ = false) => ?_ | refine ⟨fun (_ : true = true) => ?_, fun h => absurd h (by decide)⟩ | refine gtr (k := ?_)))
      refine And.intro (fun h => ?_) (fun h => ?_)
      · have hlt : i < l.length := by have := of_decide_eq_true h; omega
        (repeat (first | refine gos (k := ?_) | refine fun (_ : _ = false) => ?_ | refine ⟨fun (_ : true = true) => ?_, fun h => absurd h (by decide)⟩ | refine gtr (k := ?_)))
        simp only [Bool.false_eq_true, if_false, Int.toNat_natCast]
        have hs := sumB_take hlt ⟨0, 0, 0, []⟩
        (repeat (first | refine gos (k := ?_) | refine fun (_ : _ = false) => ?_ | refine ⟨fun (_ : true = true) => ?_, fun h => absurd h (by decide)⟩ | refine gtr (k := ?_)))
        refine And.intro (fun h => ?_) (fun h => ?_)
        · have hle := sumB_le (l := l) (i + 1)
          have hv : vastF x y l = true := by
            simp only [vastF, Bool.or_eq_true, decide_eq_true_eq] at h ⊢
            omega
          rw [hv]
          (repeat (first | refine gos (k := ?_) | refine fun (_ : _ = false) => ?_ | refine ⟨fun (_ : true = true) => ?_, fun h => absurd h (by decide)⟩ | refine gtr (k := ?_)))
          exact ⟨_, rfl, rfl, trivial⟩
        · (repeat (first | refine gos (k := ?_) | refine fun (_ : _ = false) => ?_ | refine ⟨fun (_ : true = true) => ?_, fun h => absurd h (by decide)⟩ | refine gtr (k := ?_)))
          (refine sts (k := ?_))
          have h2 := of_decide_eq_false h
          refine ⟨⟨i + 1, hlt, by omega⟩, leS_of ?_ ?_, ?_⟩
          · rw [show ((sumB (l.take i) : Nat) : Int) + min ((l.getD i ⟨0, 0, 0, []⟩).b.length : Int) 131072 = ((sumB (l.take (i + 1)) : Nat) : Int) by omega]
            simp [vastI, leT, setD, setL, updH, evA, unA, getA, getL, constA, undefs, deads]
          · simp [vastI, leH, setD, setL, updH, evA, unA, getA, getL, constA, undefs, deads]
          · show l.length - (i + 1) < l.length - i
            omega
      · have hlt : i = l.length := by have := of_decide_eq_false h; omega
        (repeat (first | refine gos (k := ?_) | refine fun (_ : _ = false) => ?_ | refine ⟨fun (_ : true = true) => ?_, fun h => absurd h (by decide)⟩ | refine gtr (k := ?_)))
        subst hlt
        rw [List.take_length] at i2
        have hv : vastF x y l = false := by
          simp only [vastF, Bool.or_eq_false_iff, Bool.and_eq_false_iff, decide_eq_false_iff_not] at *
          omega
        rw [hv]
        exact ⟨_, rfl, rfl, trivial⟩
end Go.Proofs.Ytjfenbkhgamidaa
