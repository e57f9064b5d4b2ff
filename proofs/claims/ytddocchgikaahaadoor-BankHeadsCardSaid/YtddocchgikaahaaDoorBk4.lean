/- Walks of slices.Grow, slices.Concat. Conditions: none. -/
import Derived.Test.YtddocchgikaahaaDoorBk3
namespace Go.Proofs.YtddocchgikaahaaDoor
open Go.RowKit
set_option linter.unusedVariables false
set_option linter.unusedSimpArgs false
set_option maxRecDepth 100000
theorem grow_vc (n : Nat) (hn : n ≤ 1000000000) : Spec Tryd.prog 67 [.val (.slice none 0 0), .val (.int .i64 n)] [] (pms (.own 22 2 1 0 0) [] [(22, ⟨2, .bytes []⟩)]) := by
  refine spec_entryW tbOk Tryd.func67 rfl Tryd.ntmps67 Tryd.results67 ?_
  have h0 : decide ((n : Int) < 0) = false := by simp
  (repeat (first | refine gos (k := ?_) | refine fun (_ : _ = false) => ?_ | refine ⟨fun (_ : true = true) => ?_, fun h => absurd h (by decide)⟩ | refine gtr (k := ?_)))
  rw [h0]
  (repeat (first | refine gos (k := ?_) | refine fun (_ : _ = false) => ?_ | refine ⟨fun (_ : true = true) => ?_, fun h => absurd h (by decide)⟩ | refine gtr (k := ?_)))
  refine ⟨fun h => ?_, fun h => ?_⟩
  · (repeat (first | refine gos (k := ?_) | refine fun (_ : _ = false) => ?_ | refine ⟨fun (_ : true = true) => ?_, fun h => absurd h (by decide)⟩ | refine gtr (k := ?_)))
    conv => whnf
    refine ⟨List.replicate n 0, ?_⟩
    conv => whnf
    refine And.intro ?_ ?_
    · refine ⟨⟨by omega, by simp only [Nat.mul_one]; omega, by omega, rfl, rfl⟩, rfl, rfl, ?_, ?_, by decide⟩
      · rw [show ((n : Int) - (0 - 0)).toNat = n by omega]; simp [bcells, bv]
      · simp only [List.length_replicate, Nat.mul_one]; omega
    (repeat (first | refine gos (k := ?_) | refine fun (_ : _ = false) => ?_ | refine ⟨fun (_ : true = true) => ?_, fun h => absurd h (by decide)⟩ | refine gtr (k := ?_)))
    (refine sts (k := ?_))
    refine ⟨_, leS_row 22 ⟨2, .bytes []⟩ rfl (WeakE.take 2 _ 0), ?_⟩
    (repeat (first | refine gos (k := ?_) | refine fun (_ : _ = false) => ?_ | refine ⟨fun (_ : true = true) => ?_, fun h => absurd h (by decide)⟩ | refine gtr (k := ?_)))
    exact ⟨_, rfl, rfl, rfl, trivial⟩
  · (repeat (first | refine gos (k := ?_) | refine fun (_ : _ = false) => ?_ | refine ⟨fun (_ : true = true) => ?_, fun h => absurd h (by decide)⟩ | refine gtr (k := ?_)))
    (refine sts (k := ?_))
    refine ⟨_, leS_nil 22 2 (.bytes []) rfl (by decide) rfl (t' := [.any, .any, .any, .any, .own 22 2 1 0 0, .any, .any, .any, .any, .any, .any, .any, .any, .any, .any, .any, .any, .any, .any, .any, .any, .any, .any, .any, .any, .any, .any]) ?_, ?_⟩
    · simp [leTn, setD, setL, updH, evA, unA, getA, getL, constA, undefs, deads]
    (repeat (first | refine gos (k := ?_) | refine fun (_ : _ = false) => ?_ | refine ⟨fun (_ : true = true) => ?_, fun h => absurd h (by decide)⟩ | refine gtr (k := ?_)))
    exact ⟨_, rfl, rfl, rfl, trivial⟩
theorem flat_succ (ls : List (List UInt8)) (i : Nat) (hi : i < ls.length) : (ls.take (i + 1)).flatten = (ls.take i).flatten ++ ls.getD i [] := by
  have h1 : ls.take (i + 1) = ls.take i ++ [ls[i]] := by rw [List.take_add_one, List.getElem?_eq_getElem hi]; rfl
  rw [h1, List.flatten_append, List.getD_eq_getElem?_getD, List.getElem?_eq_getElem hi]
  simp only [List.flatten_cons, List.flatten_nil, List.append_nil, Option.getD_some]
theorem flat_le (ls : List (List UInt8)) (i : Nat) : (ls.take i).flatten.length ≤ ls.flatten.length := by
  have : ls.flatten = (ls.take i).flatten ++ (ls.drop i).flatten := by rw [← List.flatten_append, List.take_append_drop]
  rw [this, List.length_append]; omega
theorem concat_vc (ls : List (List UInt8)) (hls : ls.length ≤ 1000) (hl : ls.flatten.length ≤ 1000000000) (z : Nat) : Spec Tryd.prog 56 [.sl z 1 (fun l => [.bs 0 l]) [] ls] [] (pms (.own 24 (3 + ls.length) 1 0 ls.flatten.length) [] [(24, ⟨3 + ls.length, .bytes ls.flatten⟩)]) := by
  refine spec_entryW tbOk Tryd.func56 rfl Tryd.ntmps56 Tryd.results56 ?_
  (repeat (first | refine gos (k := ?_) | refine fun (_ : _ = false) => ?_ | refine ⟨fun (_ : true = true) => ?_, fun h => absurd h (by decide)⟩ | refine gtr (k := ?_)))
  (refine sts (k := ?_))
  conv => whnf
  refine loop_at (fun i : Nat => i ≤ ls.length) (fun i => ls.length - i) 0 [3, 5, 11, 12, 13, 14, 15, 16, 17, 18, 19, 20, 21, 22] (fun i => [(3, .val (.int .i64 (ls.take i).flatten.length)), (11, .val (.int .i64 i))]) (fun i => []) 0 (Nat.zero_le _) ?_ ?_ ?_
  · ((try dsimp only [lpS, anyT, putT, setL]); (repeat (refine And.intro (by first | exact trivial | exact rfl) ?_)); (first | exact trivial | skip))
  · ((try dsimp only [lpS, deadH, putH, setL, Nat.reduceAdd, Nat.zero_add]); (repeat (refine And.intro (by first | exact rfl | exact trivial) ?_)); (first | exact trivial | skip))
  · rintro i v h1
    (dsimp only [lpS, anyT, putT, setL, deadH, putH, Nat.reduceAdd, Nat.zero_add])
    (repeat (first | refine gos (k := ?_) | refine fun (_ : _ = false) => ?_ | refine ⟨fun (_ : true = true) => ?_, fun h => absurd h (by decide)⟩ | refine gtr (k := ?_)))
    refine ⟨fun h => ?_, fun h => ?_⟩
    · have hi : i < ls.length := by have := of_decide_eq_true h; omega
      have hs := flat_succ ls i hi
      have hle := flat_le ls (i + 1)
      have hlen := congrArg List.length hs
      rw [List.length_append] at hlen
      have hd : ls.getD ((i : Nat) : Int).toNat [] = ls.getD i [] := by rw [Int.toNat_natCast]
      rw [← hd] at hlen
      have hlt : decide (((ls.take i).flatten.length : Int) + ((ls.getD ((i : Nat) : Int).toNat []).length : Int) < 0) = false := decide_eq_false (by omega)
      (repeat (first | refine gos (k := ?_) | refine fun (_ : _ = false) => ?_ | refine ⟨fun (_ : true = true) => ?_, fun h => absurd h (by decide)⟩ | refine gtr (k := ?_)))
      rw [hlt]
      (repeat (first | refine gos (k := ?_) | refine fun (_ : _ = false) => ?_ | refine ⟨fun (_ : true = true) => ?_, fun h => absurd h (by decide)⟩ | refine gtr (k := ?_)))
      refine back_at (i + 1) (by omega) (by show ls.length - (i + 1) < ls.length - i; omega) ?_ ?_
      · rw [← Int.natCast_add, ← hlen]
        ((try dsimp only [lpS, anyT, putT, setL]); (repeat (refine And.intro (by first | exact trivial | exact rfl) ?_)); (first | exact trivial | skip))
      · ((try dsimp only [lpS, deadH, putH, setL, Nat.reduceAdd, Nat.zero_add]); (repeat (refine And.intro (by first | exact rfl | exact trivial) ?_)); (first | exact trivial | skip))
    · (repeat (first | refine gos (k := ?_) | refine fun (_ : _ = false) => ?_ | refine ⟨fun (_ : true = true) => ?_, fun h => absurd h (by decide)⟩ | refine gtr (k := ?_)))
      have hi : i = ls.length := by have := of_decide_eq_false h; omega
      subst hi
      rw [List.take_length]
      refine cmks (grow_vc ls.flatten.length hl) Tryd.call67 0 [0, 0, 0, 0, 0, 0, 0, 0, 0, 0, 0, 0, 0, 0, 0, 0, 0, 0, 0, 0, 0, 0, 24] [0, 0, 0, 0, 0, 0, 0, 0, 0, 0, 0, 0, 0, 0, 0, 0, 0, 0, 0, 0, 0, 0, 1] [22] ?_
      (repeat (first | refine gos (k := ?_) | refine fun (_ : _ = false) => ?_ | refine ⟨fun (_ : true = true) => ?_, fun h => absurd h (by decide)⟩ | refine gtr (k := ?_)))
      (refine sts (k := ?_))
      conv => whnf
      refine loop_at (fun i : Nat => i ≤ ls.length) (fun i => ls.length - i) 0 [6, 8, 27, 28, 29, 30, 31, 32, 33, 34] (fun i => [(6, .own 24 (3 + i) 1 0 (ls.take i).flatten.length), (27, .val (.int .i64 i))]) (fun i => [(24, ⟨3 + i, .bytes (ls.take i).flatten⟩)]) 0 (Nat.zero_le _) ?_ ?_ ?_
      · ((try dsimp only [lpS, anyT, putT, setL]); (repeat (refine And.intro (by first | exact trivial | exact rfl) ?_)); (first | exact trivial | skip))
      · ((try dsimp only [lpS, deadH, putH, setL, Nat.reduceAdd, Nat.zero_add]); (repeat (refine And.intro (by first | exact rfl | exact trivial) ?_)); (first | exact trivial | skip))
      · rintro i v h1
        (dsimp only [lpS, anyT, putT, setL, deadH, putH, Nat.reduceAdd, Nat.zero_add])
        (repeat (first | refine gos (k := ?_) | refine fun (_ : _ = false) => ?_ | refine ⟨fun (_ : true = true) => ?_, fun h => absurd h (by decide)⟩ | refine gtr (k := ?_)))
        refine ⟨fun h => ?_, fun h => ?_⟩
        · have hi : i < ls.length := by have := of_decide_eq_true h; omega
          have hs := flat_succ ls i hi
          have hle := flat_le ls (i + 1)
          have hlen := congrArg List.length hs
          rw [List.length_append] at hlen
          have hd : ls.getD ((i : Nat) : Int).toNat [] = ls.getD i [] := by rw [Int.toNat_natCast]
          (repeat (first | refine gos (k := ?_) | refine fun (_ : _ = false) => ?_ | refine ⟨fun (_ : true = true) => ?_, fun h => absurd h (by decide)⟩ | refine gtr (k := ?_)))
          conv => whnf
          refine ⟨ls.getD ((i : Nat) : Int).toNat [], ?_⟩
          conv => whnf
          refine And.intro ?_ ?_
          · refine ⟨rfl, trivial, rfl, rfl, rfl, rfl, rfl, rfl, ?_, by decide⟩
            rw [hd]
            simp only [Nat.mul_one]; omega
          (repeat (first | refine gos (k := ?_) | refine fun (_ : _ = false) => ?_ | refine ⟨fun (_ : true = true) => ?_, fun h => absurd h (by decide)⟩ | refine gtr (k := ?_)))
          rw [hd, ← hlen, ← hs]
          refine back_at (i + 1) (by omega) (by show ls.length - (i + 1) < ls.length - i; omega) ?_ ?_
          · ((try dsimp only [lpS, anyT, putT, setL]); (repeat (refine And.intro (by first | exact trivial | exact rfl) ?_)); (first | exact trivial | skip))
          · ((try dsimp only [lpS, deadH, putH, setL, Nat.reduceAdd, Nat.zero_add]); (repeat (refine And.intro (by first | exact rfl | exact trivial) ?_)); (first | exact trivial | skip))
        · have hi : i = ls.length := by have := of_decide_eq_false h; omega
          subst hi
          rw [List.take_length]
          (repeat (first | refine gos (k := ?_) | refine fun (_ : _ = false) => ?_ | refine ⟨fun (_ : true = true) => ?_, fun h => absurd h (by decide)⟩ | refine gtr (k := ?_)))
          (refine sts (k := ?_))
          refine ⟨_, leS_refl _, ?_⟩
          (repeat (first | refine gos (k := ?_) | refine fun (_ : _ = false) => ?_ | refine ⟨fun (_ : true = true) => ?_, fun h => absurd h (by decide)⟩ | refine gtr (k := ?_)))
          exact ⟨_, rfl, rfl, rfl, trivial⟩
end Go.Proofs.YtddocchgikaahaaDoor
