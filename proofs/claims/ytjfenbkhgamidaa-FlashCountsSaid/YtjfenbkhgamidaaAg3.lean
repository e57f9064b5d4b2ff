/- Walks of lintellaw07: does, on no flash. Conditions: none. -/
import Derived.Test.YtjfenbkhgamidaaAw
import Derived.Test.YtjfenbkhgamidaaAc
import Derived.Test.YtjfenbkhgamidaaAg0
import Derived.Test.YtjfenbkhgamidaaAf10
namespace Go.Proofs.Ytjfenbkhgamidaa
open Go.RowKit
set_option linter.unusedVariables false
set_option linter.unusedSimpArgs false
set_option maxRecDepth 100000
theorem twin_nil : Spec Try.prog 12 [.val (.slice none 0 0)] [] (pms (.own 3 2 1 0 0) [] [(3, ⟨2, .bytes []⟩)]) :=
  spec_ro (twin_vc 0 [] (by decide)) trivial ⟨trivial, trivial⟩ (rows := []) (args := [.val (.slice none 0 0)]) (asL_cons as_nil asL_nil)
theorem nprog_own (a : Int) (b : List UInt8) (v : Nat) : Spec Try.prog 11 [.val (.pointer none), .val (.int .i64 a), .own 0 v 1 0 b.length] [⟨v, .bytes b⟩] (pms (.val (.int .i64 2)) [⟨v, .bytes b⟩] []) :=
  spec_ro (nil_prog a 0 ((b.drop 0).take b.length)) trivial trivial (rows := [⟨v, .bytes b⟩]) (asL_cons as_val (asL_cons as_val (asL_cons (as_own (l := b) rfl (by omega)) asL_nil)))
theorem nsame_own (a b : List UInt8) (hb : a.length ≤ 140737488355328) (v z : Nat) : Spec Try.prog 20 [.own 0 v 1 0 a.length, .bs z b] [⟨v, .bytes a⟩] (pms (.val (.bool (decide (a = b)))) [⟨v, .bytes a⟩] []) := by
  have e : (a.drop 0).take a.length = a := by rw [List.drop_zero, List.take_length]
  have h := spec_ro (same_vc 0 0 ((a.drop 0).take a.length) b (by rw [e]; exact hb)) trivial trivial (rows := [⟨v, .bytes a⟩]) (args := [.own 0 v 1 0 a.length, .bs z b]) (asL_cons (as_own (l := a) rfl (by omega)) (asL_cons as_bs asL_nil))
  rw [e] at h
  exact h
def doesNI : St := ⟨[.any, .any, .any, .any, .any, .any, .any, .val (.slice none 0 0), .val (.int .i64 2), .own 27 3 1 0 0, .val (.int .i64 0), .any, .any, .any, .any, .any, .any, .any, .any, .any, .any, .any, .any, .any, .any, .any, .any, .any, .any, .any, .any, .any, .any, .any, .any, .any, .any, .any, .any, .any, .any, .any, .any, .any, .any, .any, .any, .any, .any, .any, .any, .any, .any, .any, .any, .any, .any, .any, .any, .any, .any, .any, .any, .any, .any, .any, .any, .any, .any, .any, .any, .any], [⟨0, .dead⟩, ⟨0, .dead⟩, ⟨0, .dead⟩, ⟨1, .dead⟩, ⟨0, .dead⟩, ⟨0, .dead⟩, ⟨0, .dead⟩, ⟨0, .dead⟩, ⟨0, .dead⟩, ⟨0, .dead⟩, ⟨0, .dead⟩, ⟨0, .dead⟩, ⟨0, .dead⟩, ⟨0, .dead⟩, ⟨0, .dead⟩, ⟨0, .dead⟩, ⟨0, .dead⟩, ⟨0, .dead⟩, ⟨0, .dead⟩, ⟨0, .dead⟩, ⟨0, .dead⟩, ⟨0, .dead⟩, ⟨0, .dead⟩, ⟨0, .dead⟩, ⟨0, .dead⟩, ⟨0, .dead⟩, ⟨0, .dead⟩, ⟨3, .bytes []⟩, ⟨0, .dead⟩, ⟨0, .dead⟩, ⟨0, .dead⟩, ⟨0, .dead⟩, ⟨0, .dead⟩, ⟨0, .dead⟩, ⟨0, .dead⟩, ⟨0, .dead⟩, ⟨0, .dead⟩, ⟨0, .dead⟩, ⟨0, .dead⟩, ⟨0, .dead⟩, ⟨0, .dead⟩, ⟨0, .dead⟩, ⟨0, .dead⟩, ⟨0, .dead⟩, ⟨0, .dead⟩, ⟨0, .dead⟩, ⟨0, .dead⟩, ⟨0, .dead⟩, ⟨0, .dead⟩, ⟨0, .dead⟩, ⟨0, .dead⟩, ⟨0, .dead⟩, ⟨0, .dead⟩, ⟨0, .dead⟩, ⟨0, .dead⟩, ⟨0, .dead⟩, ⟨0, .dead⟩, ⟨0, .dead⟩, ⟨0, .dead⟩, ⟨0, .dead⟩, ⟨0, .dead⟩, ⟨0, .dead⟩, ⟨0, .dead⟩, ⟨0, .dead⟩, ⟨0, .dead⟩, ⟨0, .dead⟩, ⟨0, .dead⟩, ⟨0, .dead⟩, ⟨0, .dead⟩, ⟨0, .dead⟩, ⟨0, .dead⟩, ⟨0, .dead⟩]⟩
theorem does_nil (kind a n : Int) (b : List UInt8) (hkd : I64 kind) (ha : I64 a) (hn : I64 n) (hb : b.length ≤ 140737488355328) (z : Nat) : Spec Try.prog 15 [.val (.pointer none), .agg [.val (.int .i64 kind), .val (.int .i64 a), .val (.int .i64 n), .bs z b]] []
   (pms (.tup [.own 27 3 1 0 0, .val (.int .i64 (if 0 ≤ kind ∧ kind ≤ 4 then 2 else 0)), .val (.bool true)]) [] [(27, ⟨3, .bytes []⟩)]) := by
  refine spec_entryW tbOk Try.func15 rfl Try.ntmps15 Try.results15 ?_
  (repeat (first | refine gos (k := ?_) | refine fun (_ : _ = false) => ?_ | refine ⟨fun (_ : true = true) => ?_, fun h => absurd h (by decide)⟩ | refine gtr (k := ?_)))
  refine And.intro (fun h => ?_) (fun h => ?_)
  · have hk := of_decide_eq_true h
    rw [if_pos (by omega)]
    (repeat (first | refine gos (k := ?_) | refine fun (_ : _ = false) => ?_ | refine ⟨fun (_ : true = true) => ?_, fun h => absurd h (by decide)⟩ | refine gtr (k := ?_)))
    refine cmks (nil_read a n) Try.call10 0 [] [] [] ?_
    (repeat (first | refine gos (k := ?_) | refine fun (_ : _ = false) => ?_ | refine ⟨fun (_ : true = true) => ?_, fun h => absurd h (by decide)⟩ | refine gtr (k := ?_)))
    refine cmks (twin_nil) Try.call12 0 [0, 0, 0, 27] [0, 0, 0, 1] [3] ?_
    (repeat (first | refine gos (k := ?_) | refine fun (_ : _ = false) => ?_ | refine ⟨fun (_ : true = true) => ?_, fun h => absurd h (by decide)⟩ | refine gtr (k := ?_)))
    (refine sts (k := ?_))
    (refine sts (k := ?_))
    refine loop_of (σ := Unit) (fun _ => doesNI) (fun _ => 0) () ?_ ?_ ?_
    · simp [doesNI, leT, setD, setL, updH, evA, unA, getA, getL, constA, undefs, deads]
    · simp [doesNI, leH, setD, setL, updH, evA, unA, getA, getL, constA, undefs, deads]
    · rintro ⟨⟩
      dsimp only [doesNI]
      (repeat (first | refine gos (k := ?_) | refine fun (_ : _ = false) => ?_ | refine ⟨fun (_ : true = true) => ?_, fun h => absurd h (by decide)⟩ | refine gtr (k := ?_)))
      refine ⟨_, leS_refl _, ?_⟩
      (repeat (first | refine gos (k := ?_) | refine fun (_ : _ = false) => ?_ | refine ⟨fun (_ : true = true) => ?_, fun h => absurd h (by decide)⟩ | refine gtr (k := ?_)))
      exact ⟨_, rfl, rfl, rfl, trivial⟩
  · have hk := of_decide_eq_false h
    (repeat (first | refine gos (k := ?_) | refine fun (_ : _ = false) => ?_ | refine ⟨fun (_ : true = true) => ?_, fun h => absurd h (by decide)⟩ | refine gtr (k := ?_)))
    refine And.intro (fun h => ?_) (fun h => ?_)
    · have hk1 := of_decide_eq_true h
      rw [if_pos (by omega)]
      (repeat (first | refine gos (k := ?_) | refine fun (_ : _ = false) => ?_ | refine ⟨fun (_ : true = true) => ?_, fun h => absurd h (by decide)⟩ | refine gtr (k := ?_)))
      refine cmks (twin_vc z b hb) Try.call12 0 [0, 0, 0, 43] [0, 0, 0, 1] [3] ?_
      (repeat (first | refine gos (k := ?_) | refine fun (_ : _ = false) => ?_ | refine ⟨fun (_ : true = true) => ?_, fun h => absurd h (by decide)⟩ | refine gtr (k := ?_)))
      refine cmks (nprog_own a b 3) Try.call11 1 [43] [0] [] ?_
      (repeat (first | refine gos (k := ?_) | refine fun (_ : _ = false) => ?_ | refine ⟨fun (_ : true = true) => ?_, fun h => absurd h (by decide)⟩ | refine gtr (k := ?_)))
      refine cmks (nsame_own b b hb 3 z) Try.call20 1 [43] [0] [] ?_
      (repeat (first | refine gos (k := ?_) | refine fun (_ : _ = false) => ?_ | refine ⟨fun (_ : true = true) => ?_, fun h => absurd h (by decide)⟩ | refine gtr (k := ?_)))
      refine ⟨_, leS_nil 27 3 (.bytes []) rfl (by decide) rfl (t' := [.any, .any, .any, .any, .own 27 3 1 0 0, .val (.int .i64 2), .val (.bool true), .any, .any, .any, .any, .any, .any, .any, .any, .any, .any, .any, .any, .any, .any, .any, .any, .any, .any, .any, .any, .any, .any, .any, .any, .any, .any, .any, .any, .any, .any, .any, .any, .any, .any, .any, .any, .any, .any, .any, .any, .any, .any, .any, .any, .any, .any, .any, .any, .any, .any, .any, .any, .any, .any, .any, .any, .any, .any, .any, .any, .any, .any, .any, .any, .any]) ?_, ?_⟩
      · simp [leTn, setD, setL, updH, evA, unA, getA, getL, constA, undefs, deads]
      (repeat (first | refine gos (k := ?_) | refine fun (_ : _ = false) => ?_ | refine ⟨fun (_ : true = true) => ?_, fun h => absurd h (by decide)⟩ | refine gtr (k := ?_)))
      exact ⟨_, rfl, rfl, rfl, trivial⟩
    · have hk1 := of_decide_eq_false h
      (repeat (first | refine gos (k := ?_) | refine fun (_ : _ = false) => ?_ | refine ⟨fun (_ : true = true) => ?_, fun h => absurd h (by decide)⟩ | refine gtr (k := ?_)))
      refine And.intro (fun h => ?_) (fun h => ?_)
      · have hk2 := of_decide_eq_true h
        rw [if_pos (by omega)]
        (repeat (first | refine gos (k := ?_) | refine fun (_ : _ = false) => ?_ | refine ⟨fun (_ : true = true) => ?_, fun h => absurd h (by decide)⟩ | refine gtr (k := ?_)))
        refine cmks (nil_erase a) Try.call13 0 [] [] [] ?_
        (repeat (first | refine gos (k := ?_) | refine fun (_ : _ = false) => ?_ | refine ⟨fun (_ : true = true) => ?_, fun h => absurd h (by decide)⟩ | refine gtr (k := ?_)))
        refine ⟨_, leS_nil 27 3 (.bytes []) rfl (by decide) rfl (t' := [.any, .any, .any, .any, .own 27 3 1 0 0, .val (.int .i64 2), .val (.bool true), .any, .any, .any, .any, .any, .any, .any, .any, .any, .any, .any, .any, .any, .any, .any, .any, .any, .any, .any, .any, .any, .any, .any, .any, .any, .any, .any, .any, .any, .any, .any, .any, .any, .any, .any, .any, .any, .any, .any, .any, .any, .any, .any, .any, .any, .any, .any, .any, .any, .any, .any, .any, .any, .any, .any, .any, .any, .any, .any, .any, .any, .any, .any, .any, .any]) ?_, ?_⟩
        · simp [leTn, setD, setL, updH, evA, unA, getA, getL, constA, undefs, deads]
        (repeat (first | refine gos (k := ?_) | refine fun (_ : _ = false) => ?_ | refine ⟨fun (_ : true = true) => ?_, fun h => absurd h (by decide)⟩ | refine gtr (k := ?_)))
        exact ⟨_, rfl, rfl, rfl, trivial⟩
      · have hk2 := of_decide_eq_false h
        (repeat (first | refine gos (k := ?_) | refine fun (_ : _ = false) => ?_ | refine ⟨fun (_ : true = true) => ?_, fun h => absurd h (by decide)⟩ | refine gtr (k := ?_)))
        refine And.intro (fun h => ?_) (fun h => ?_)
        · have hk3 := of_decide_eq_true h
          rw [if_pos (by omega)]
          (repeat (first | refine gos (k := ?_) | refine fun (_ : _ = false) => ?_ | refine ⟨fun (_ : true = true) => ?_, fun h => absurd h (by decide)⟩ | refine gtr (k := ?_)))
          refine cmks (nil_arm n a) Try.call14 0 [] [] [] ?_
          (repeat (first | refine gos (k := ?_) | refine fun (_ : _ = false) => ?_ | refine ⟨fun (_ : true = true) => ?_, fun h => absurd h (by decide)⟩ | refine gtr (k := ?_)))
          refine ⟨_, leS_nil 27 3 (.bytes []) rfl (by decide) rfl (t' := [.any, .any, .any, .any, .own 27 3 1 0 0, .val (.int .i64 2), .val (.bool true), .any, .any, .any, .any, .any, .any, .any, .any, .any, .any, .any, .any, .any, .any, .any, .any, .any, .any, .any, .any, .any, .any, .any, .any, .any, .any, .any, .any, .any, .any, .any, .any, .any, .any, .any, .any, .any, .any, .any, .any, .any, .any, .any, .any, .any, .any, .any, .any, .any, .any, .any, .any, .any, .any, .any, .any, .any, .any, .any, .any, .any, .any, .any, .any, .any]) ?_, ?_⟩
          · simp [leTn, setD, setL, updH, evA, unA, getA, getL, constA, undefs, deads]
          (repeat (first | refine gos (k := ?_) | refine fun (_ : _ = false) => ?_ | refine ⟨fun (_ : true = true) => ?_, fun h => absurd h (by decide)⟩ | refine gtr (k := ?_)))
          exact ⟨_, rfl, rfl, rfl, trivial⟩
        · have hk3 := of_decide_eq_false h
          (repeat (first | refine gos (k := ?_) | refine fun (_ : _ = false) => ?_ | refine ⟨fun (_ : true = true) => ?_, fun h => absurd h (by decide)⟩ | refine gtr (k := ?_)))
          refine And.intro (fun h => ?_) (fun h => ?_)
          · have hk4 := of_decide_eq_true h
            rw [if_pos (by omega)]
            (repeat (first | refine gos (k := ?_) | refine fun (_ : _ = false) => ?_ | refine ⟨fun (_ : true = true) => ?_, fun h => absurd h (by decide)⟩ | refine gtr (k := ?_)))
            refine cmks (nil_on) Try.call22 0 [] [] [] ?_
            (repeat (first | refine gos (k := ?_) | refine fun (_ : _ = false) => ?_ | refine ⟨fun (_ : true = true) => ?_, fun h => absurd h (by decide)⟩ | refine gtr (k := ?_)))
            refine ⟨_, leS_nil 27 3 (.bytes []) rfl (by decide) rfl (t' := [.any, .any, .any, .any, .own 27 3 1 0 0, .val (.int .i64 2), .val (.bool true), .any, .any, .any, .any, .any, .any, .any, .any, .any, .any, .any, .any, .any, .any, .any, .any, .any, .any, .any, .any, .any, .any, .any, .any, .any, .any, .any, .any, .any, .any, .any, .any, .any, .any, .any, .any, .any, .any, .any, .any, .any, .any, .any, .any, .any, .any, .any, .any, .any, .any, .any, .any, .any, .any, .any, .any, .any, .any, .any, .any, .any, .any, .any, .any, .any]) ?_, ?_⟩
            · simp [leTn, setD, setL, updH, evA, unA, getA, getL, constA, undefs, deads]
            (repeat (first | refine gos (k := ?_) | refine fun (_ : _ = false) => ?_ | refine ⟨fun (_ : true = true) => ?_, fun h => absurd h (by decide)⟩ | refine gtr (k := ?_)))
            exact ⟨_, rfl, rfl, rfl, trivial⟩
          · have hk4 := of_decide_eq_false h
            rw [if_neg (by omega)]
            (repeat (first | refine gos (k := ?_) | refine fun (_ : _ = false) => ?_ | refine ⟨fun (_ : true = true) => ?_, fun h => absurd h (by decide)⟩ | refine gtr (k := ?_)))
            refine ⟨_, leS_nil 27 3 (.bytes []) rfl (by decide) rfl (t' := [.any, .any, .any, .any, .own 27 3 1 0 0, .val (.int .i64 0), .val (.bool true), .any, .any, .any, .any, .any, .any, .any, .any, .any, .any, .any, .any, .any, .any, .any, .any, .any, .any, .any, .any, .any, .any, .any, .any, .any, .any, .any, .any, .any, .any, .any, .any, .any, .any, .any, .any, .any, .any, .any, .any, .any, .any, .any, .any, .any, .any, .any, .any, .any, .any, .any, .any, .any, .any, .any, .any, .any, .any, .any, .any, .any, .any, .any, .any, .any]) ?_, ?_⟩
            · simp [leTn, setD, setL, updH, evA, unA, getA, getL, constA, undefs, deads]
            (repeat (first | refine gos (k := ?_) | refine fun (_ : _ = false) => ?_ | refine ⟨fun (_ : true = true) => ?_, fun h => absurd h (by decide)⟩ | refine gtr (k := ?_)))
            exact ⟨_, rfl, rfl, rfl, trivial⟩
end Go.Proofs.Ytjfenbkhgamidaa
