/- Walks of crc. Conditions: none. -/
import Derived.Test.YtddocchgikaahaaDoorBk2
namespace Go.Proofs.YtddocchgikaahaaDoor
open Go.RowKit
set_option linter.unusedVariables false
set_option linter.unusedSimpArgs false
set_option maxRecDepth 100000
def crcT : List Int := [0, 498536548, 997073096, 651767980, 1994146192, 1802195444, 1303535960, 1342533948, 3988292384, 4027552580, 3604390888, 3412177804, 2607071920, 2262029012, 2685067896, 3183342108]
/-- half a byte -/
def crcS (x : Int) : Int := (((x / 2 ^ (4 : Int).toNat).toNat ^^^ (crcT.getD ((x.toNat &&& 15 : Nat) : Int).toNat 0).toNat : Nat) : Int)
def crcN : Nat → Int → Int
  | 0, x => x
  | n + 1, x => crcN n (crcS x)
def crcF : List UInt8 → Int → Int
  | [], x => x
  | c :: l, x => crcF l (crcN 2 ((x.toNat ^^^ c.toNat : Nat) : Int))
theorem xor_bound {a b : Nat} (ha : a ≤ 4294967295) (hb : b ≤ 4294967295) : a ^^^ b ≤ 4294967295 := by
  have : a ^^^ b < 2 ^ 32 := Nat.xor_lt_two_pow (by omega) (by omega)
  omega
theorem crcT_bound (i : Nat) : 0 ≤ crcT.getD i 0 ∧ crcT.getD i 0 ≤ 4294967295 := by
  by_cases h : i < 16
  · have : ∀ i, i < 16 → 0 ≤ crcT.getD i 0 ∧ crcT.getD i 0 ≤ 4294967295 := by decide
    exact this i h
  · rw [List.getD_eq_getElem?_getD, List.getElem?_eq_none (by simp [crcT]; omega)]; decide
theorem crcS_bound {x : Int} (h : 0 ≤ x ∧ x ≤ 4294967295) : 0 ≤ crcS x ∧ crcS x ≤ 4294967295 := by
  have ht := crcT_bound ((x.toNat &&& 15 : Nat) : Int).toNat
  unfold crcS
  have h1 : (2 : Int) ^ (4 : Int).toNat = 16 := rfl
  rw [h1]
  have := xor_bound (a := (x / 16).toNat) (b := (crcT.getD ((x.toNat &&& 15 : Nat) : Int).toNat 0).toNat) (by omega) (by omega)
  omega
theorem crcN_bound : ∀ (n : Nat) {x : Int}, 0 ≤ x ∧ x ≤ 4294967295 → 0 ≤ crcN n x ∧ crcN n x ≤ 4294967295
  | 0, x, h => h
  | n + 1, x, h => crcN_bound n (crcS_bound h)
theorem extend_vc (b : List UInt8) (hb : b.length ≤ 140737488355328) (z : Nat) (x : Int) (hx : 0 ≤ x ∧ x ≤ 4294967295) : Spec Tryd.prog 55 [.val (.int .u32 x), .bs z b] []
   (pst (.val (.int .u32 (4294967295 - crcF b (4294967295 - x)))) []) := by
  refine spec_entry tbOk Tryd.func55 rfl Tryd.ntmps55 Tryd.results55 ?_
  obtain ⟨R, hR⟩ : ∃ R, R = crcF b (4294967295 - x) := ⟨_, rfl⟩
  rw [← hR]
  (repeat (first | refine gos (k := ?_) | refine fun (_ : _ = false) => ?_ | refine ⟨fun (_ : true = true) => ?_, fun h => absurd h (by decide)⟩ | refine gtr (k := ?_)))
  (refine sts (k := ?_))
  conv => whnf
  refine loop_at (fun y : Nat × Int => y.1 ≤ b.length ∧ (0 ≤ y.2 ∧ y.2 ≤ 4294967295) ∧ crcF (b.drop y.1) y.2 = R) (fun y => b.length - y.1) 0 [5, 7, 12, 13, 14, 15, 16, 17, 18, 19, 20, 21, 22, 23, 24, 25, 26, 27, 28, 29, 30] (fun y => [(5, .val (.int .u32 y.2)), (12, .val (.int .i64 y.1))]) (fun i => []) (0, 4294967295 - x) ⟨Nat.zero_le _, by omega, hR.symm⟩ ?_ ?_ ?_
  · ((try dsimp only [lpS, anyT, putT, setL]); (repeat (refine And.intro (by first | exact trivial | exact rfl) ?_)); (first | exact trivial | skip))
  · ((try dsimp only [lpS, deadH, putH, setL, Nat.reduceAdd, Nat.zero_add]); (repeat (refine And.intro (by first | exact rfl | exact trivial) ?_)); (first | exact trivial | skip))
  · rintro ⟨i, y⟩ v ⟨h1, h2, h3⟩
    simp only at h1 h2 h3
    (dsimp only [lpS, anyT, putT, setL, deadH, putH, Nat.reduceAdd, Nat.zero_add])
    (repeat (first | refine gos (k := ?_) | refine fun (_ : _ = false) => ?_ | refine ⟨fun (_ : true = true) => ?_, fun h => absurd h (by decide)⟩ | refine gtr (k := ?_)))
    refine ⟨fun h => ?_, fun h => ?_⟩
    · have hi : i < b.length := by have := of_decide_eq_true h; omega
      (repeat (first | refine gos (k := ?_) | refine fun (_ : _ = false) => ?_ | refine ⟨fun (_ : true = true) => ?_, fun h => absurd h (by decide)⟩ | refine gtr (k := ?_)))
      have hc := (b.getD (i : Int).toNat 0).toNat_lt
      have hce : (b.getD (i : Int).toNat 0).toNat = (b.getD i 0).toNat := by rw [Int.toNat_natCast]
      obtain ⟨y0, hy0⟩ : ∃ y0 : Int, y0 = ((y.toNat ^^^ (((b.getD (i : Int).toNat 0).toNat : Int) % 4294967296).toNat : Nat) : Int) := ⟨_, rfl⟩
      rw [← hy0]
      have hb0 : 0 ≤ y0 ∧ y0 ≤ 4294967295 := by
        have := xor_bound (a := y.toNat) (b := (((b.getD (i : Int).toNat 0).toNat : Int) % 4294967296).toNat) (by omega) (by omega)
        omega
      have hnx : crcF (b.drop (i + 1)) (crcN 2 y0) = R := by
        rw [← h3, List.drop_eq_getElem_cons hi, crcF, hy0]
        congr 2
        rw [show (((b.getD (i : Int).toNat 0).toNat : Int) % 4294967296).toNat = (b[i]).toNat by simp only [Int.toNat_natCast, List.getD_eq_getElem?_getD, List.getElem?_eq_getElem hi, Option.getD_some]; have := (b[i]).toNat_lt; omega]
      (refine sts (k := ?_))
      conv => whnf
      refine loop_at (fun q : Nat × Int => q.1 ≤ 2 ∧ (0 ≤ q.2 ∧ q.2 ≤ 4294967295) ∧ crcN (2 - q.1) q.2 = crcN 2 y0) (fun q => 2 - q.1) 0 [5, 20, 21, 22, 23, 24, 25, 26, 27, 28, 29] (fun q => [(5, .val (.int .u32 q.2)), (20, .val (.int .i64 q.1))]) (fun i => []) (0, y0) ⟨Nat.zero_le _, hb0, rfl⟩ ?_ ?_ ?_
      · ((try dsimp only [lpS, anyT, putT, setL]); (repeat (refine And.intro (by first | exact trivial | exact rfl) ?_)); (first | exact trivial | skip))
      · ((try dsimp only [lpS, deadH, putH, setL, Nat.reduceAdd, Nat.zero_add]); (repeat (refine And.intro (by first | exact rfl | exact trivial) ?_)); (first | exact trivial | skip))
      · rintro ⟨j, q⟩ v ⟨g1, g2, g3⟩
        simp only at g1 g2 g3
        (dsimp only [lpS, anyT, putT, setL, deadH, putH, Nat.reduceAdd, Nat.zero_add])
        (repeat (first | refine gos (k := ?_) | refine fun (_ : _ = false) => ?_ | refine ⟨fun (_ : true = true) => ?_, fun h => absurd h (by decide)⟩ | refine gtr (k := ?_)))
        refine ⟨fun h => ?_, fun h => ?_⟩
        · have hj : j < 2 := by have := of_decide_eq_true h; omega
          have hand : q.toNat &&& 15 ≤ 15 := Nat.and_le_right
          (repeat (first | refine gos (k := ?_) | refine fun (_ : _ = false) => ?_ | refine ⟨fun (_ : true = true) => ?_, fun h => absurd h (by decide)⟩ | refine gtr (k := ?_)))
          (refine sts (k := ?_))
          refine And.intro ?_ ?_
          · refine ⟨by omega, ?_, rfl, rfl, by decide⟩
            exact Int.ofNat_lt.2 (Nat.lt_succ_of_le hand)
          have ht := crcT_bound ((q.toNat &&& Int.toNat 15 : Nat) : Int).toNat
          unfold crcT at ht
          have hq : 0 ≤ q / 2 ^ Int.toNat 4 ∧ q / 2 ^ Int.toNat 4 ≤ 4294967295 := by
            have : (2 : Int) ^ Int.toNat 4 = 16 := rfl
            rw [this]; omega
          (repeat (first | refine gos (k := ?_) | refine fun (_ : _ = false) => ?_ | refine ⟨fun (_ : true = true) => ?_, fun h => absurd h (by decide)⟩ | refine gtr (k := ?_)))
          refine back_at (j + 1, crcS q) ⟨by show j + 1 ≤ 2; omega, crcS_bound g2, ?_⟩ (by show 2 - (j + 1) < 2 - j; omega) ?_ ?_
          · show crcN (2 - (j + 1)) (crcS q) = _
            rw [← g3, show 2 - j = 2 - (j + 1) + 1 by omega, crcN]
          · ((try dsimp only [lpS, anyT, putT, setL]); (repeat (refine And.intro (by first | exact trivial | exact rfl) ?_)); (first | exact trivial | skip))
          · ((try dsimp only [lpS, deadH, putH, setL, Nat.reduceAdd, Nat.zero_add]); (repeat (refine And.intro (by first | exact rfl | exact trivial) ?_)); (first | exact trivial | skip))
        · (repeat (first | refine gos (k := ?_) | refine fun (_ : _ = false) => ?_ | refine ⟨fun (_ : true = true) => ?_, fun h => absurd h (by decide)⟩ | refine gtr (k := ?_)))
          have hj : j = 2 := by have := of_decide_eq_false h; omega
          rw [hj] at g3
          refine back_at (i + 1, q) ⟨by show i + 1 ≤ b.length; omega, g2, ?_⟩ (by show b.length - (i + 1) < b.length - i; omega) ?_ ?_
          · show crcF (b.drop (i + 1)) q = R
            rw [← hnx, ← g3]; rfl
          · ((try dsimp only [lpS, anyT, putT, setL]); (repeat (refine And.intro (by first | exact trivial | exact rfl) ?_)); (first | exact trivial | skip))
          · ((try dsimp only [lpS, deadH, putH, setL, Nat.reduceAdd, Nat.zero_add]); (repeat (refine And.intro (by first | exact rfl | exact trivial) ?_)); (first | exact trivial | skip))
    · (repeat (first | refine gos (k := ?_) | refine fun (_ : _ = false) => ?_ | refine ⟨fun (_ : true = true) => ?_, fun h => absurd h (by decide)⟩ | refine gtr (k := ?_)))
      have hi : i = b.length := by have := of_decide_eq_false h; omega
      rw [hi, List.drop_length, crcF] at h3
      rw [h3]
      exact ⟨_, rfl, rfl⟩
theorem sum_vc (b : List UInt8) (hb : b.length ≤ 140737488355328) (z : Nat) : Spec Tryd.prog 53 [.bs z b] []
   (pst (.val (.int .u32 (4294967295 - crcF b (4294967295 - 0)))) []) := by
  refine spec_entry tbOk Tryd.func53 rfl Tryd.ntmps53 Tryd.results53 ?_
  (repeat (first | refine gos (k := ?_) | refine fun (_ : _ = false) => ?_ | refine ⟨fun (_ : true = true) => ?_, fun h => absurd h (by decide)⟩ | refine gtr (k := ?_)))
  refine cdet (extend_vc b hb z 0 (by decide)) Tryd.call55 [] ?_
  (repeat (first | refine gos (k := ?_) | refine fun (_ : _ = false) => ?_ | refine ⟨fun (_ : true = true) => ?_, fun h => absurd h (by decide)⟩ | refine gtr (k := ?_)))
  exact ⟨_, rfl, rfl⟩
end Go.Proofs.YtddocchgikaahaaDoor
