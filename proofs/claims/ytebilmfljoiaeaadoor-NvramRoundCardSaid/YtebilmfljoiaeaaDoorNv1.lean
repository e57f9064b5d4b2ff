/- Walks of nvram: last, counts. Conditions: none. -/
import Derived.Test.YtebilmfljoiaeaaDoorNp1
namespace Go.Proofs.YtebilmfljoiaeaaDoor
open Go.RowKit
set_option linter.unusedVariables false
set_option linter.unusedSimpArgs false
set_option maxRecDepth 100000
set_option maxHeartbeats 1500000
theorem last_vc (z z' : Nat) (l : List RK) (key : List UInt8) (hb : ∀ r ∈ l, r.key.length ≤ 140737488355328) (hl : l.length ≤ 140737488355328) : Spec Tryd.prog 28 [.sl z 3 (recA z) rk0 l, .bs z' key] [] (pms (.val (.int .i64 (lastK l key))) [] []) := by
  obtain ⟨L, hL⟩ : ∃ L, lastK l key = L := ⟨_, rfl⟩
  rw [hL]
  refine spec_entry tbOk Tryd.func28 rfl Tryd.ntmps28 Tryd.results28 ?_
  (repeat (first | refine gos (k := ?_) | refine fun (_ : _ = false) => ?_ | refine ⟨fun (_ : true = true) => ?_, fun h => absurd h (by decide)⟩ | refine gtr (k := ?_)))
  (refine sts (k := ?_))
  conv => whnf
  refine loop_at (fun m : Nat => m ≤ l.length ∧ L = lastI l key m) (fun m => m) 0 [4, 5, 9, 10, 11, 12, 13, 14, 15, 16, 17, 18, 19, 20, 21, 22, 23, 24, 25, 26, 27] (fun m => [(5, .val (.int .i64 ((m : Int) - 1)))]) (fun m => []) l.length ⟨Nat.le_refl _, hL.symm⟩ ?_ ?_ ?_
  · ((try dsimp only [lpS, anyT, putT, setL]); (repeat (refine And.intro (by first | exact trivial | exact rfl) ?_)); (first | exact trivial | skip))
  · ((try dsimp only [lpS, deadH, putH, setL, Nat.reduceAdd, Nat.zero_add]); (repeat (refine And.intro (by first | exact rfl | exact trivial) ?_)); (first | exact trivial | skip))
  · rintro m v ⟨i1, i2⟩
    (dsimp only [lpS, anyT, putT, setL, deadH, putH, Nat.reduceAdd, Nat.zero_add])
    (repeat (first | refine gos (k := ?_) | refine fun (_ : _ = false) => ?_ | refine ⟨fun (_ : true = true) => ?_, fun h => absurd h (by decide)⟩ | refine gtr (k := ?_)))
    refine ⟨fun h => ?_, fun h => ?_⟩
    · obtain ⟨j, rfl⟩ : ∃ j, m = j + 1 := ⟨m - 1, by have := of_decide_eq_true h; omega⟩
      have hj : ((j + 1 : Nat) : Int) - 1 = (j : Int) := by omega
      have hmem : l.getD j rk0 ∈ l := by rw [List.getD_eq_getElem?_getD, List.getElem?_eq_getElem (by omega)]; exact List.getElem_mem _
      have hk := hb _ hmem
      rw [lastI] at i2
      generalize hx : l.getD j rk0 = x at hk i2
      obtain ⟨xk, xv, xl⟩ := x
      simp only at hk i2
      rw [hj]
      (repeat (first | refine gos (k := ?_) | refine fun (_ : _ = false) => ?_ | refine ⟨fun (_ : true = true) => ?_, fun h => absurd h (by decide)⟩ | refine gtr (k := ?_)))
      simp only [Int.toNat_natCast, hx]
      cases xl with
      | false =>
        rw [if_neg (by simp)] at i2
        (repeat (first | refine gos (k := ?_) | refine fun (_ : _ = false) => ?_ | refine ⟨fun (_ : true = true) => ?_, fun h => absurd h (by decide)⟩ | refine gtr (k := ?_)))
        (try simp only [Int.toNat_natCast, hx])
        (repeat (first | refine gos (k := ?_) | refine fun (_ : _ = false) => ?_ | refine ⟨fun (_ : true = true) => ?_, fun h => absurd h (by decide)⟩ | refine gtr (k := ?_)))
        intro _
        (repeat (first | refine gos (k := ?_) | refine fun (_ : _ = false) => ?_ | refine ⟨fun (_ : true = true) => ?_, fun h => absurd h (by decide)⟩ | refine gtr (k := ?_)))
        refine back_at j ⟨by omega, i2⟩ (by show j < j + 1; omega) ?_ ?_
        · ((try dsimp only [lpS, anyT, putT, setL]); (repeat (refine And.intro (by first | exact trivial | exact rfl) ?_)); (first | exact trivial | skip))
        · ((try dsimp only [lpS, deadH, putH, setL, Nat.reduceAdd, Nat.zero_add]); (repeat (refine And.intro (by first | exact rfl | exact trivial) ?_)); (first | exact trivial | skip))
      | true =>
        (repeat (first | refine gos (k := ?_) | refine fun (_ : _ = false) => ?_ | refine ⟨fun (_ : true = true) => ?_, fun h => absurd h (by decide)⟩ | refine gtr (k := ?_)))
        (try simp only [Int.toNat_natCast, hx])
        (repeat (first | refine gos (k := ?_) | refine fun (_ : _ = false) => ?_ | refine ⟨fun (_ : true = true) => ?_, fun h => absurd h (by decide)⟩ | refine gtr (k := ?_)))
        refine cdet (equal_vc xk key z z') Tryd.call46 [] ?_
        by_cases hkk : xk = key
        · rw [if_pos ⟨rfl, hkk⟩] at i2
          subst i2
          rw [decide_eq_true hkk]
          (repeat (first | refine gos (k := ?_) | refine fun (_ : _ = false) => ?_ | refine ⟨fun (_ : true = true) => ?_, fun h => absurd h (by decide)⟩ | refine gtr (k := ?_)))
          exact ⟨_, rfl, rfl, trivial⟩
        · rw [if_neg (fun q => hkk q.2)] at i2
          rw [decide_eq_false hkk]
          (repeat (first | refine gos (k := ?_) | refine fun (_ : _ = false) => ?_ | refine ⟨fun (_ : true = true) => ?_, fun h => absurd h (by decide)⟩ | refine gtr (k := ?_)))
          refine back_at j ⟨by omega, i2⟩ (by show j < j + 1; omega) ?_ ?_
          · ((try dsimp only [lpS, anyT, putT, setL]); (repeat (refine And.intro (by first | exact trivial | exact rfl) ?_)); (first | exact trivial | skip))
          · ((try dsimp only [lpS, deadH, putH, setL, Nat.reduceAdd, Nat.zero_add]); (repeat (refine And.intro (by first | exact rfl | exact trivial) ?_)); (first | exact trivial | skip))
    · have hm : m = 0 := by have := of_decide_eq_false h; omega
      subst hm
      obtain rfl : L = -1 := i2
      (repeat (first | refine gos (k := ?_) | refine fun (_ : _ = false) => ?_ | refine ⟨fun (_ : true = true) => ?_, fun h => absurd h (by decide)⟩ | refine gtr (k := ?_)))
      exact ⟨_, rfl, rfl, trivial⟩
theorem counts_vc {W : Int} {n k : Nat} (s : FlS) (c : Nat) (g : Goes W n k s) (pa : Lies n k 0 c) (pb : Lies n k c c) (vs va vb v0 v1 : Nat) : Spec Tryd.prog 20 [.ref 0 vs 3 0 0] [⟨vs, .obj [.ref 3 v0 6 0 0, .ref 1 va 3 0 0, .ref 2 vb 3 0 0]⟩, ⟨va, .obj [.ref 3 v0 6 0 0, .val (.int .i64 ((0 : Nat) : Int)), .val (.int .i64 (c : Int))]⟩, ⟨vb, .obj [.ref 3 v0 6 0 0, .val (.int .i64 (c : Int)), .val (.int .i64 (c : Int))]⟩, ⟨v0, .obj [.own 4 v1 1 0 s.l.length, .val (.int .i64 (s.k : Int)), .val (.int .i64 s.ar), .val (.int .i64 s.pt), .val (.bool s.dd), .val (.int .i64 s.wr)]⟩, ⟨v1, .bytes s.l⟩]
   (pms (.tup [.val (.int .i64 ((s.cnt c).1 : Int)), .val (.int .u32 (s.cnt c).2.1), .val (.bool (s.cnt c).2.2)]) [⟨vs, .obj [.ref 3 v0 6 0 0, .ref 1 va 3 0 0, .ref 2 vb 3 0 0]⟩, ⟨va, .obj [.ref 3 v0 6 0 0, .val (.int .i64 ((0 : Nat) : Int)), .val (.int .i64 (c : Int))]⟩, ⟨vb, .obj [.ref 3 v0 6 0 0, .val (.int .i64 (c : Int)), .val (.int .i64 (c : Int))]⟩, ⟨v0, .obj [.own 4 v1 1 0 s.l.length, .val (.int .i64 (s.k : Int)), .val (.int .i64 s.ar), .val (.int .i64 s.pt), .val (.bool s.dd), .val (.int .i64 s.wr)]⟩, ⟨v1, .bytes s.l⟩] []) := by
  refine spec_entry tbOk Tryd.func20 rfl Tryd.ntmps20 Tryd.results20 ?_
  have hb0 := bhead_vc s 0 c g pa va v0 v1
  have hb1 := bhead_vc s c c g pb vb v0 v1
  unfold FlS.cnt
  generalize s.head 0 = h0 at hb0 ⊢
  generalize s.head c = h1 at hb1 ⊢
  obtain ⟨g0, r0, e0⟩ := h0
  obtain ⟨g1, r1, e1⟩ := h1
  simp only at hb0 hb1 ⊢
  (repeat (first | refine gos (k := ?_) | refine fun (_ : _ = false) => ?_ | refine ⟨fun (_ : true = true) => ?_, fun h => absurd h (by decide)⟩ | refine gtr (k := ?_)))
  (refine sts (k := ?_))
  conv => whnf
  refine loop_at (fun i : Nat => i ≤ 2) (fun i => 2 - i) 5 [7, 8, 13, 14, 15, 16, 17, 18, 19, 20, 21, 22, 23, 24, 25, 26, 27] (fun i => [(13, .val (.int .i64 (i : Int)))]) (fun i => [(10, ⟨1, .obj [.val (.int .u32 (if i = 0 then 0 else g0)), .val (.int .u32 (if i = 2 then g1 else 0))]⟩), (11, ⟨1, .obj [.val (.bool (if i = 0 then false else r0)), .val (.bool (if i = 2 then r1 else false))]⟩)]) 0 (by decide) ?_ ?_ ?_
  · ((try dsimp only [lpS, anyT, putT, setL]); (repeat (refine And.intro (by first | exact trivial | exact rfl) ?_)); (first | exact trivial | skip))
  · ((try dsimp only [lpS, deadH, putH, setL, Nat.reduceAdd, Nat.zero_add]); (repeat (refine And.intro (by first | exact rfl | exact trivial) ?_)); (first | exact trivial | skip))
  · rintro i v i1
    (dsimp only [lpS, anyT, putT, setL, deadH, putH, Nat.reduceAdd, Nat.zero_add])
    (repeat (first | refine gos (k := ?_) | refine fun (_ : _ = false) => ?_ | refine ⟨fun (_ : true = true) => ?_, fun h => absurd h (by decide)⟩ | refine gtr (k := ?_)))
    refine ⟨fun h => ?_, fun h => ?_⟩
    · obtain rfl | rfl : i = 0 ∨ i = 1 := by have := of_decide_eq_true h; omega
      · (repeat (first | refine gos (k := ?_) | refine fun (_ : _ = false) => ?_ | refine ⟨fun (_ : true = true) => ?_, fun h => absurd h (by decide)⟩ | refine gtr (k := ?_)))
        refine cmks (hb0) Tryd.call35 3 [1, 3, 4] [0, 0, 0] [] ?_
        (repeat (first | refine gos (k := ?_) | refine fun (_ : _ = false) => ?_ | refine ⟨fun (_ : true = true) => ?_, fun h => absurd h (by decide)⟩ | refine gtr (k := ?_)))
        refine back_at 1 (by decide) (by show 2 - 1 < 2 - 0; decide) ?_ ?_
        · ((try dsimp only [lpS, anyT, putT, setL]); (repeat (refine And.intro (by first | exact trivial | exact rfl) ?_)); (first | exact trivial | skip))
        · ((try dsimp only [lpS, deadH, putH, setL, Nat.reduceAdd, Nat.zero_add]); (repeat (refine And.intro (by first | exact rfl | exact trivial) ?_)); (first | exact trivial | skip))
      · (repeat (first | refine gos (k := ?_) | refine fun (_ : _ = false) => ?_ | refine ⟨fun (_ : true = true) => ?_, fun h => absurd h (by decide)⟩ | refine gtr (k := ?_)))
        refine cmks (hb1) Tryd.call35 3 [2, 3, 4] [0, 0, 0] [] ?_
        (repeat (first | refine gos (k := ?_) | refine fun (_ : _ = false) => ?_ | refine ⟨fun (_ : true = true) => ?_, fun h => absurd h (by decide)⟩ | refine gtr (k := ?_)))
        refine back_at 2 (by decide) (by show 2 - 2 < 2 - 1; decide) ?_ ?_
        · ((try dsimp only [lpS, anyT, putT, setL]); (repeat (refine And.intro (by first | exact trivial | exact rfl) ?_)); (first | exact trivial | skip))
        · ((try dsimp only [lpS, deadH, putH, setL, Nat.reduceAdd, Nat.zero_add]); (repeat (refine And.intro (by first | exact rfl | exact trivial) ?_)); (first | exact trivial | skip))
    · obtain rfl : i = 2 := by have := of_decide_eq_false h; omega
      simp only [show (if (2 : Nat) = 0 then (0 : Int) else g0) = g0 from rfl, show (if (2 : Nat) = 2 then g1 else (0 : Int)) = g1 from rfl, show (if (2 : Nat) = 0 then false else r0) = r0 from rfl, show (if (2 : Nat) = 2 then r1 else false) = r1 from rfl, if_true]
      cases r1 with
      | false =>
        rw [if_neg (by simp)]
        (repeat (first | refine gos (k := ?_) | refine fun (_ : _ = false) => ?_ | refine ⟨fun (_ : true = true) => ?_, fun h => absurd h (by decide)⟩ | refine gtr (k := ?_)))
        (
                                        (refine sts (k := ?_))
                                        refine draw_of (p := 5) tbOk hm [0, 0, 2, 6, 0, 16, 48, 19, 159, 511] [⟨0, false, false, []⟩, ⟨1, false, false, []⟩, ⟨2, true, false, [42, 45, 46, 47, 48, 2, 3, 4]⟩, ⟨3, true, false, [42, 46, 47, 48, 2, 3, 4]⟩, ⟨4, false, false, []⟩, ⟨5, true, false, [42, 43, 44, 45, 48, 2, 3, 4]⟩, ⟨6, true, false, [42, 43, 44, 45, 2, 3, 4]⟩, ⟨7, false, false, []⟩, ⟨8, false, false, []⟩, ⟨9, false, false, []⟩] (by kernel_rfl) ?_
                                        (repeat (first | refine gos (k := ?_) | refine fun (_ : _ = false) => ?_ | refine ⟨fun (_ : true = true) => ?_, fun h => absurd h (by decide)⟩ | refine gtr (k := ?_)))
                                        exact ⟨_, rfl, rfl, trivial⟩)
      | true =>
      cases r0 with
      | false =>
        rw [if_pos (by simp)]
        (repeat (first | refine gos (k := ?_) | refine fun (_ : _ = false) => ?_ | refine ⟨fun (_ : true = true) => ?_, fun h => absurd h (by decide)⟩ | refine gtr (k := ?_)))
        refine ⟨fun _ => ?_, fun h => absurd h (by simp)⟩
        (repeat (first | refine gos (k := ?_) | refine fun (_ : _ = false) => ?_ | refine ⟨fun (_ : true = true) => ?_, fun h => absurd h (by decide)⟩ | refine gtr (k := ?_)))
        (
                                        (refine sts (k := ?_))
                                        refine draw_of (p := 5) tbOk hm [0, 0, 2, 6, 0, 16, 48, 19, 159, 511] [⟨0, false, false, []⟩, ⟨1, false, false, []⟩, ⟨2, true, false, [42, 45, 46, 47, 48, 2, 3, 4]⟩, ⟨3, true, false, [42, 46, 47, 48, 2, 3, 4]⟩, ⟨4, false, false, []⟩, ⟨5, true, false, [42, 43, 44, 45, 48, 2, 3, 4]⟩, ⟨6, true, false, [42, 43, 44, 45, 2, 3, 4]⟩, ⟨7, false, false, []⟩, ⟨8, false, false, []⟩, ⟨9, false, false, []⟩] (by kernel_rfl) ?_
                                        (repeat (first | refine gos (k := ?_) | refine fun (_ : _ = false) => ?_ | refine ⟨fun (_ : true = true) => ?_, fun h => absurd h (by decide)⟩ | refine gtr (k := ?_)))
                                        exact ⟨_, rfl, rfl, trivial⟩)
      | true =>
      by_cases hg : g0 < g1
      · rw [if_pos ⟨rfl, .inr hg⟩]
        have hd : decide (g0 < g1) = true := decide_eq_true hg
        (repeat (first | refine gos (k := ?_) | refine fun (_ : _ = false) => ?_ | refine ⟨fun (_ : true = true) => ?_, fun h => absurd h (by decide)⟩ | refine gtr (k := ?_)))
        rw [hd]
        (repeat (first | refine gos (k := ?_) | refine fun (_ : _ = false) => ?_ | refine ⟨fun (_ : true = true) => ?_, fun h => absurd h (by decide)⟩ | refine gtr (k := ?_)))
        (
                                        (refine sts (k := ?_))
                                        refine draw_of (p := 5) tbOk hm [0, 0, 2, 6, 0, 16, 48, 19, 159, 511] [⟨0, false, false, []⟩, ⟨1, false, false, []⟩, ⟨2, true, false, [42, 45, 46, 47, 48, 2, 3, 4]⟩, ⟨3, true, false, [42, 46, 47, 48, 2, 3, 4]⟩, ⟨4, false, false, []⟩, ⟨5, true, false, [42, 43, 44, 45, 48, 2, 3, 4]⟩, ⟨6, true, false, [42, 43, 44, 45, 2, 3, 4]⟩, ⟨7, false, false, []⟩, ⟨8, false, false, []⟩, ⟨9, false, false, []⟩] (by kernel_rfl) ?_
                                        (repeat (first | refine gos (k := ?_) | refine fun (_ : _ = false) => ?_ | refine ⟨fun (_ : true = true) => ?_, fun h => absurd h (by decide)⟩ | refine gtr (k := ?_)))
                                        exact ⟨_, rfl, rfl, trivial⟩)
      · rw [if_neg (by simp [hg])]
        have hd : decide (g0 < g1) = false := decide_eq_false hg
        (repeat (first | refine gos (k := ?_) | refine fun (_ : _ = false) => ?_ | refine ⟨fun (_ : true = true) => ?_, fun h => absurd h (by decide)⟩ | refine gtr (k := ?_)))
        rw [hd]
        (repeat (first | refine gos (k := ?_) | refine fun (_ : _ = false) => ?_ | refine ⟨fun (_ : true = true) => ?_, fun h => absurd h (by decide)⟩ | refine gtr (k := ?_)))
        (
                                        (refine sts (k := ?_))
                                        refine draw_of (p := 5) tbOk hm [0, 0, 2, 6, 0, 16, 48, 19, 159, 511] [⟨0, false, false, []⟩, ⟨1, false, false, []⟩, ⟨2, true, false, [42, 45, 46, 47, 48, 2, 3, 4]⟩, ⟨3, true, false, [42, 46, 47, 48, 2, 3, 4]⟩, ⟨4, false, false, []⟩, ⟨5, true, false, [42, 43, 44, 45, 48, 2, 3, 4]⟩, ⟨6, true, false, [42, 43, 44, 45, 2, 3, 4]⟩, ⟨7, false, false, []⟩, ⟨8, false, false, []⟩, ⟨9, false, false, []⟩] (by kernel_rfl) ?_
                                        (repeat (first | refine gos (k := ?_) | refine fun (_ : _ = false) => ?_ | refine ⟨fun (_ : true = true) => ?_, fun h => absurd h (by decide)⟩ | refine gtr (k := ?_)))
                                        exact ⟨_, rfl, rfl, trivial⟩)
end Go.Proofs.YtebilmfljoiaeaaDoor
