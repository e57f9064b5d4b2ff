/- Walks of lintellaw08: SameRecs, look. Conditions: none. -/
import Derived.Test.YtddocchgikaahaaDoorGr
namespace Go.Proofs.YtddocchgikaahaaDoor
open Go.RowKit
set_option linter.unusedVariables false
set_option linter.unusedSimpArgs false
set_option maxRecDepth 100000
set_option maxHeartbeats 1500000
def recA (z : Nat) (r : RK) : List AV := [.bs z r.key, .bs z r.val, .val (.bool r.lv)]
def rk0 : RK := ⟨[], [], false⟩
theorem take_next {α : Type} {a b : List α} {i : Nat} {d : α} (ha : i < a.length) (hb : i < b.length) (h : a.take i = b.take i) (he : a.getD i d = b.getD i d) : a.take (i + 1) = b.take (i + 1) := by
  rw [List.take_succ_eq_append_getElem ha, List.take_succ_eq_append_getElem hb, h]
  rw [List.getD_eq_getElem?_getD, List.getD_eq_getElem?_getD, List.getElem?_eq_getElem ha, List.getElem?_eq_getElem hb] at he
  rw [show a[i] = b[i] from he]
theorem sameR_vc (z z' : Nat) (a b : List RK) (hb : ∀ r ∈ a, r.key.length ≤ 140737488355328 ∧ r.val.length ≤ 140737488355328) (hl : a.length ≤ 140737488355328) : Spec Tryd.prog 20 [.sl z 3 (recA z) rk0 a, .sl z' 3 (recA z') rk0 b] [] (pms (.val (.bool (decide (a = b)))) [] []) := by
  refine spec_entry tbOk Tryd.func20 rfl Tryd.ntmps20 Tryd.results20 ?_
  (repeat (first | refine gos (k := ?_) | refine fun (_ : _ = false) => ?_ | refine ⟨fun (_ : true = true) => ?_, fun h => absurd h (by decide)⟩ | refine gtr (k := ?_)))
  refine ⟨fun h => ?_, fun h => ?_⟩
  · have hne : a.length ≠ b.length := fun q => by rw [q] at h; simp at h
    have hab : a ≠ b := fun q => hne (by rw [q])
    (repeat (first | refine gos (k := ?_) | refine fun (_ : _ = false) => ?_ | refine ⟨fun (_ : true = true) => ?_, fun h => absurd h (by decide)⟩ | refine gtr (k := ?_)))
    rw [decide_eq_false hab]
    exact ⟨_, rfl, rfl, trivial⟩
  have hab : a.length = b.length := by simp at h; omega
  (repeat (first | refine gos (k := ?_) | refine fun (_ : _ = false) => ?_ | refine ⟨fun (_ : true = true) => ?_, fun h => absurd h (by decide)⟩ | refine gtr (k := ?_)))
  (refine sts (k := ?_))
  conv => whnf
  refine loop_at (fun i : Nat => i ≤ a.length ∧ a.take i = b.take i) (fun i => a.length - i) 0 [4, 5, 11, 12, 13, 14, 15, 16, 17, 18, 19, 20, 21, 22, 23, 24, 25, 26, 27, 28, 29, 30, 31, 32, 33, 34, 35, 36, 37, 38, 39, 40, 41, 42, 43, 44, 45, 46, 47, 48, 49, 50, 51, 52, 53, 54, 55] (fun i => [(4, .val (.bool false)), (5, .val (.int .i64 (i : Int)))]) (fun i => []) 0 ⟨Nat.zero_le _, by simp⟩ ?_ ?_ ?_
  · ((try dsimp only [lpS, anyT, putT, setL]); (repeat (refine And.intro (by first | exact trivial | exact rfl) ?_)); (first | exact trivial | skip))
  · ((try dsimp only [lpS, deadH, putH, setL, Nat.reduceAdd, Nat.zero_add]); (repeat (refine And.intro (by first | exact rfl | exact trivial) ?_)); (first | exact trivial | skip))
  · rintro i v ⟨i1, i2⟩
    (dsimp only [lpS, anyT, putT, setL, deadH, putH, Nat.reduceAdd, Nat.zero_add])
    (repeat (first | refine gos (k := ?_) | refine fun (_ : _ = false) => ?_ | refine ⟨fun (_ : true = true) => ?_, fun h => absurd h (by decide)⟩ | refine gtr (k := ?_)))
    refine ⟨fun h => ?_, fun h => ?_⟩
    · have hlt : i < a.length := by have := of_decide_eq_true h; omega
      have hlb : i < b.length := by omega
      have hmem : a.getD i rk0 ∈ a := by rw [List.getD_eq_getElem?_getD, List.getElem?_eq_getElem hlt]; exact List.getElem_mem hlt
      obtain ⟨hk, hv⟩ := hb _ hmem
      have hnx := take_next (d := rk0) hlt hlb i2
      have hno : a.getD i rk0 ≠ b.getD i rk0 → a ≠ b := fun q e => q (by rw [e])
      generalize hx : a.getD i rk0 = x at hk hv hnx hno
      generalize hy : b.getD i rk0 = y at hnx hno
      (repeat (first | refine gos (k := ?_) | refine fun (_ : _ = false) => ?_ | refine ⟨fun (_ : true = true) => ?_, fun h => absurd h (by decide)⟩ | refine gtr (k := ?_)))
      (refine sts (k := ?_))
      refine draw_of (p := 0) tbOk hm [0, 0, 3, 7, 15, 0, 0, 96, 224, 480, 1023, 2047, 4095, 4095, 16383, 32767, 65535, 4095, 4095, 397311, 921599, 1970175, 4194303, 8388607, 16777215, 33554431, 67108863, 67108863, 268435455, 536870911, 1073741823, 67108863, 67108863, 6509559807, 15099494399, 32279363583, 68719476735, 137438953471, 274877906943] [⟨0, false, false, []⟩, ⟨1, false, false, []⟩, ⟨2, true, false, [20, 21, 22, 23, 24, 25, 26, 27, 28, 29, 30, 31, 32, 33, 34, 35, 36, 37, 38, 39, 40, 41, 42, 43, 44, 45, 46, 47, 48, 49, 50, 51, 52, 53, 54, 55]⟩, ⟨3, true, false, [21, 22, 23, 24, 25, 26, 27, 28, 29, 30, 31, 32, 33, 34, 35, 36, 37, 38, 39, 40, 41, 42, 43, 44, 45, 46, 47, 48, 49, 50, 51, 52, 53, 54, 55]⟩, ⟨4, true, false, [22, 23, 24, 25, 26, 27, 28, 29, 30, 31, 32, 33, 34, 35, 36, 37, 38, 39, 40, 41, 42, 43, 44, 45, 46, 47, 48, 49, 50, 51, 52, 53, 54, 55]⟩, ⟨5, false, false, []⟩, ⟨6, false, false, []⟩, ⟨7, true, false, [17, 18, 19, 20, 21, 25, 26, 27, 28, 29, 30, 31, 32, 33, 34, 35, 36, 37, 38, 39, 40, 41, 42, 43, 44, 45, 46, 47, 48, 49, 50, 51, 52, 53, 54, 55]⟩, ⟨8, true, false, [17, 18, 19, 20, 21, 26, 27, 28, 29, 30, 31, 32, 33, 34, 35, 36, 37, 38, 39, 40, 41, 42, 43, 44, 45, 46, 47, 48, 49, 50, 51, 52, 53, 54, 55]⟩, ⟨9, true, false, [17, 18, 19, 20, 21, 27, 28, 29, 30, 31, 32, 33, 34, 35, 36, 37, 38, 39, 40, 41, 42, 43, 44, 45, 46, 47, 48, 49, 50, 51, 52, 53, 54, 55]⟩, ⟨10, false, false, []⟩, ⟨11, false, false, []⟩, ⟨12, false, false, []⟩, ⟨13, false, false, []⟩, ⟨14, true, false, [32, 33, 34, 35, 36, 37, 38, 39, 40, 41, 42, 43, 44, 45, 46, 47, 48, 49, 50, 51, 52, 53, 54, 55]⟩, ⟨15, true, false, [33, 34, 35, 36, 37, 38, 39, 40, 41, 42, 43, 44, 45, 46, 47, 48, 49, 50, 51, 52, 53, 54, 55]⟩, ⟨16, true, false, [34, 35, 36, 37, 38, 39, 40, 41, 42, 43, 44, 45, 46, 47, 48, 49, 50, 51, 52, 53, 54, 55]⟩, ⟨17, false, false, []⟩, ⟨18, false, false, []⟩, ⟨19, true, false, [29, 30, 31, 32, 33, 37, 38, 39, 40, 41, 42, 43, 44, 45, 46, 47, 48, 49, 50, 51, 52, 53, 54, 55]⟩, ⟨20, true, false, [29, 30, 31, 32, 33, 38, 39, 40, 41, 42, 43, 44, 45, 46, 47, 48, 49, 50, 51, 52, 53, 54, 55]⟩, ⟨21, true, false, [29, 30, 31, 32, 33, 39, 40, 41, 42, 43, 44, 45, 46, 47, 48, 49, 50, 51, 52, 53, 54, 55]⟩, ⟨22, true, false, [40, 41, 42, 43, 44, 45, 46, 47, 48, 49, 50, 51, 52, 53, 54, 55]⟩, ⟨23, false, false, []⟩, ⟨24, false, false, []⟩, ⟨25, false, false, []⟩, ⟨26, false, false, []⟩, ⟨27, false, false, []⟩, ⟨28, true, false, [46, 47, 48, 49, 50, 51, 52, 53, 54, 55]⟩, ⟨29, true, false, [47, 48, 49, 50, 51, 52, 53, 54, 55]⟩, ⟨30, true, false, [48, 49, 50, 51, 52, 53, 54, 55]⟩, ⟨31, false, false, []⟩, ⟨32, false, false, []⟩, ⟨33, true, false, [43, 44, 45, 46, 47, 51, 52, 53, 54, 55]⟩, ⟨34, true, false, [43, 44, 45, 46, 47, 52, 53, 54, 55]⟩, ⟨35, true, false, [43, 44, 45, 46, 47, 53, 54, 55]⟩, ⟨36, true, false, [54, 55]⟩, ⟨37, false, false, []⟩, ⟨38, false, false, []⟩] (by kernel_rfl) ?_
      (repeat (first | refine gos (k := ?_) | refine fun (_ : _ = false) => ?_ | refine ⟨fun (_ : true = true) => ?_, fun h => absurd h (by decide)⟩ | refine gtr (k := ?_)))
      (try simp only [Int.toNat_natCast, hx, hy])
      cases hq : (x.lv == y.lv) with
      | false =>
        have hne : x ≠ y := fun e => by rw [e] at hq; simp at hq
        (repeat (first | refine gos (k := ?_) | refine fun (_ : _ = false) => ?_ | refine ⟨fun (_ : true = true) => ?_, fun h => absurd h (by decide)⟩ | refine gtr (k := ?_)))
        (try simp only [Int.toNat_natCast, hx, hy])
        (repeat (first | refine gos (k := ?_) | refine fun (_ : _ = false) => ?_ | refine ⟨fun (_ : true = true) => ?_, fun h => absurd h (by decide)⟩ | refine gtr (k := ?_)))
        intro _
        (repeat (first | refine gos (k := ?_) | refine fun (_ : _ = false) => ?_ | refine ⟨fun (_ : true = true) => ?_, fun h => absurd h (by decide)⟩ | refine gtr (k := ?_)))
        (try simp only [Int.toNat_natCast, hx, hy])
        (repeat (first | refine gos (k := ?_) | refine fun (_ : _ = false) => ?_ | refine ⟨fun (_ : true = true) => ?_, fun h => absurd h (by decide)⟩ | refine gtr (k := ?_)))
        intro _
        (repeat (first | refine gos (k := ?_) | refine fun (_ : _ = false) => ?_ | refine ⟨fun (_ : true = true) => ?_, fun h => absurd h (by decide)⟩ | refine gtr (k := ?_)))
        rw [decide_eq_false (hno hne)]
        exact ⟨_, rfl, rfl, trivial⟩
      | true =>
        have hlv : x.lv = y.lv := by simpa using hq
        (repeat (first | refine gos (k := ?_) | refine fun (_ : _ = false) => ?_ | refine ⟨fun (_ : true = true) => ?_, fun h => absurd h (by decide)⟩ | refine gtr (k := ?_)))
        (try simp only [Int.toNat_natCast, hx, hy])
        (repeat (first | refine gos (k := ?_) | refine fun (_ : _ = false) => ?_ | refine ⟨fun (_ : true = true) => ?_, fun h => absurd h (by decide)⟩ | refine gtr (k := ?_)))
        refine gcl (k := ?_)
        refine cmks (same_vc z z' x.key y.key hk) Tryd.call22 0 [] [] [] ?_
        by_cases hkk : x.key = y.key
        · rw [decide_eq_true hkk]
          (repeat (first | refine gos (k := ?_) | refine fun (_ : _ = false) => ?_ | refine ⟨fun (_ : true = true) => ?_, fun h => absurd h (by decide)⟩ | refine gtr (k := ?_)))
          (try simp only [Int.toNat_natCast, hx, hy])
          (repeat (first | refine gos (k := ?_) | refine fun (_ : _ = false) => ?_ | refine ⟨fun (_ : true = true) => ?_, fun h => absurd h (by decide)⟩ | refine gtr (k := ?_)))
          refine gcl (k := ?_)
          refine cmks (same_vc z z' x.val y.val hv) Tryd.call22 0 [] [] [] ?_
          by_cases hvv : x.val = y.val
          · rw [decide_eq_true hvv]
            (repeat (first | refine gos (k := ?_) | refine fun (_ : _ = false) => ?_ | refine ⟨fun (_ : true = true) => ?_, fun h => absurd h (by decide)⟩ | refine gtr (k := ?_)))
            have hxy : x = y := by cases x; cases y; simp_all
            refine back_at (i + 1) ⟨hlt, hnx hxy⟩ (by show a.length - (i + 1) < a.length - i; omega) ?_ ?_
            · ((try dsimp only [lpS, anyT, putT, setL]); (repeat (refine And.intro (by first | exact trivial | exact rfl) ?_)); (first | exact trivial | skip))
            · ((try dsimp only [lpS, deadH, putH, setL, Nat.reduceAdd, Nat.zero_add]); (repeat (refine And.intro (by first | exact rfl | exact trivial) ?_)); (first | exact trivial | skip))
          · rw [decide_eq_false hvv]
            (repeat (first | refine gos (k := ?_) | refine fun (_ : _ = false) => ?_ | refine ⟨fun (_ : true = true) => ?_, fun h => absurd h (by decide)⟩ | refine gtr (k := ?_)))
            rw [decide_eq_false (hno fun e => hvv (by rw [e]))]
            exact ⟨_, rfl, rfl, trivial⟩
        · rw [decide_eq_false hkk]
          (repeat (first | refine gos (k := ?_) | refine fun (_ : _ = false) => ?_ | refine ⟨fun (_ : true = true) => ?_, fun h => absurd h (by decide)⟩ | refine gtr (k := ?_)))
          intro _
          (repeat (first | refine gos (k := ?_) | refine fun (_ : _ = false) => ?_ | refine ⟨fun (_ : true = true) => ?_, fun h => absurd h (by decide)⟩ | refine gtr (k := ?_)))
          rw [decide_eq_false (hno fun e => hkk (by rw [e]))]
          exact ⟨_, rfl, rfl, trivial⟩
    · (repeat (first | refine gos (k := ?_) | refine fun (_ : _ = false) => ?_ | refine ⟨fun (_ : true = true) => ?_, fun h => absurd h (by decide)⟩ | refine gtr (k := ?_)))
      have hi : i = a.length := by have := of_decide_eq_false h; omega
      subst hi
      rw [List.take_length, hab, List.take_length] at i2
      rw [decide_eq_true i2]
      exact ⟨_, rfl, rfl, trivial⟩
end Go.Proofs.YtddocchgikaahaaDoor
