/- Walks of octet: Put, get, Get. Conditions: none. -/
import Derived.Test.YtddocchgikaahaaDoorBk1
namespace Go.Proofs.YtddocchgikaahaaDoor
open Go.RowKit
set_option linter.unusedVariables false
set_option linter.unusedSimpArgs false
set_option maxRecDepth 100000
theorem Put_vc (l : List UInt8) (hl : l.length ≤ 1000000000) (z : Nat) (x : Int) (hx : 0 ≤ x ∧ x ≤ 18446744073709551615) (n : Int) (hn : n = 1 ∨ n = 2 ∨ n = 4 ∨ n = 8) : Spec Tryd.prog 52 [.bs z l, .val (.int .u64 x), .val (.int .i64 n)] []
   (pms (.own 7 5 1 0 (l.length + n.toNat)) [] [(7, ⟨5, .bytes (l ++ leB n.toNat x)⟩)]) := by
  refine spec_entry tbOk Tryd.func52 rfl Tryd.ntmps52 Tryd.results52 ?_
  (repeat (first | refine gos (k := ?_) | refine fun (_ : _ = false) => ?_ | refine ⟨fun (_ : true = true) => ?_, fun h => absurd h (by decide)⟩ | refine gtr (k := ?_)))
  refine cmks (put_vc l hl z x hx n hn) Tryd.call63 0 [0, 0, 0, 0, 0, 0, 0, 0, 0, 0, 0, 0, 7] [0, 0, 0, 0, 0, 0, 0, 0, 0, 0, 0, 0, 1] [12] ?_
  (repeat (first | refine gos (k := ?_) | refine fun (_ : _ = false) => ?_ | refine ⟨fun (_ : true = true) => ?_, fun h => absurd h (by decide)⟩ | refine gtr (k := ?_)))
  exact ⟨_, rfl, rfl, rfl, trivial⟩
/-- the number that bytes tell, the lowest first -/
def numB : List UInt8 → Nat
  | [] => 0
  | c :: l => c.toNat + 256 * numB l
theorem numB_lt : ∀ (l : List UInt8), numB l < 256 ^ l.length
  | [] => by simp [numB]
  | c :: l => by
    have := numB_lt l
    have hc := c.toNat_lt
    simp only [numB, List.length_cons, Nat.pow_succ]
    omega
theorem numB_snoc (c : UInt8) : ∀ (l : List UInt8), numB (l ++ [c]) = 256 ^ l.length * c.toNat + numB l
  | [] => by simp [numB]
  | d :: l => by
    simp only [List.cons_append, numB, numB_snoc c l, List.length_cons, Nat.pow_succ]
    rw [Nat.mul_add, Nat.mul_comm (256 ^ l.length) 256, Nat.mul_assoc]
    omega
theorem numB_or (l : List UInt8) (i : Nat) (hi : i < l.length) (h8 : i ≤ 7) : (numB (l.take i) ||| (((l.getD i 0).toNat : Int) * 2 ^ (8 * (i : Int)).toNat % 18446744073709551616).toNat) = numB (l.take (i + 1)) := by
  have h1 := numB_lt (l.take i)
  have hlen : (l.take i).length = i := by simp; omega
  rw [hlen] at h1
  have hp : (256 : Nat) ^ i = 2 ^ (8 * i) := by rw [show (256 : Nat) = 2 ^ 8 from rfl, ← Nat.pow_mul]
  have hb : (256 : Nat) ^ i ≤ 256 ^ 7 := Nat.pow_le_pow_right (by decide) h8
  have hc := (l.getD i 0).toNat_lt
  have e1 : (8 * (i : Int)).toNat = 8 * i := by omega
  have e2 : ((l.getD i 0).toNat : Int) * 2 ^ (8 * (i : Int)).toNat = ((256 ^ i * (l.getD i 0).toNat : Nat) : Int) := by
    rw [e1, hp]
    push_cast
    exact Int.mul_comm _ _
  have h3 : 256 ^ i * (l.getD i 0).toNat < 18446744073709551616 := by
    have : 256 ^ i * (l.getD i 0).toNat ≤ 256 ^ 7 * 255 := Nat.mul_le_mul hb (by omega)
    omega
  rw [e2, show (((256 ^ i * (l.getD i 0).toNat : Nat) : Int) % 18446744073709551616).toNat = 256 ^ i * (l.getD i 0).toNat by omega]
  have h4 : l.take (i + 1) = l.take i ++ [l.getD i 0] := by
    rw [List.take_add_one, List.getElem?_eq_getElem hi]; simp [hi]
  rw [h4, numB_snoc, hlen, Nat.or_comm, hp, Nat.two_pow_add_eq_or_of_lt (by rw [← hp]; exact h1)]
theorem get_vc (b : List UInt8) (hb : b.length ≤ 140737488355328) (z : Nat) (at_ n : Int) (ha : I64 at_) (hn : I64 n) (X : Int × Int) (hX : X = if (n = 1 ∨ n = 2 ∨ n = 4 ∨ n = 8) ∧ 0 ≤ at_ ∧ 0 ≤ n ∧ at_ + n ≤ b.length then ((numB ((b.drop at_.toNat).take n.toNat) : Int), 0) else (0, 1)) : Spec Tryd.prog 68 [.bs z b, .val (.int .i64 at_), .val (.int .i64 n), .clo 64 []] []
   (pst (.tup [.val (.int .u64 X.1), .val (.int .i64 X.2)]) []) := by
  refine spec_entry tbOk Tryd.func68 rfl Tryd.ntmps68 Tryd.results68 ?_
  (repeat (first | refine gos (k := ?_) | refine fun (_ : _ = false) => ?_ | refine ⟨fun (_ : true = true) => ?_, fun h => absurd h (by decide)⟩ | refine gtr (k := ?_)))
  refine cdet (sized_vc n) Tryd.call69 [] ?_
  by_cases hs : n = 1 ∨ n = 2 ∨ n = 4 ∨ n = 8
  · rw [decide_eq_true hs]
    (repeat (first | refine gos (k := ?_) | refine fun (_ : _ = false) => ?_ | refine ⟨fun (_ : true = true) => ?_, fun h => absurd h (by decide)⟩ | refine gtr (k := ?_)))
    (refine sts (k := ?_))
    refine gcl (k := ?_)
    refine cdet (within8_vc z b hb at_ n ha hn) Tryd.call70 [] ?_
    by_cases hw : 0 ≤ at_ ∧ 0 ≤ n ∧ at_ + n ≤ b.length
    · rw [decide_eq_true hw]
      rw [if_pos ⟨hs, hw⟩] at hX
      (repeat (first | refine gos (k := ?_) | refine fun (_ : _ = false) => ?_ | refine ⟨fun (_ : true = true) => ?_, fun h => absurd h (by decide)⟩ | refine gtr (k := ?_)))
      (refine sts (k := ?_))
      conv => whnf
      obtain ⟨l, hl⟩ : ∃ l, l = (b.drop at_.toNat).take n.toNat := ⟨_, rfl⟩
      rw [← hl] at hX
      have hll : l.length = n.toNat := by rw [hl]; simp; omega
      refine loop_at (fun i : Nat => i ≤ n.toNat) (fun i => n.toNat - i) 0 [8, 10, 22, 23, 24, 25, 26, 27, 28, 29, 30, 31, 32, 33, 34, 35, 36, 37, 38, 39] (fun i => [(8, .val (.int .u64 (numB (l.take i)))), (22, .val (.int .i64 i))]) (fun i => []) 0 (Nat.zero_le _) ?_ ?_ ?_
      · ((try dsimp only [lpS, anyT, putT, setL]); (repeat (refine And.intro (by first | exact trivial | exact rfl) ?_)); (first | exact trivial | skip))
      · ((try dsimp only [lpS, deadH, putH, setL, Nat.reduceAdd, Nat.zero_add]); (repeat (refine And.intro (by first | exact rfl | exact trivial) ?_)); (first | exact trivial | skip))
      · rintro i v h1
        (dsimp only [lpS, anyT, putT, setL, deadH, putH, Nat.reduceAdd, Nat.zero_add])
        (repeat (first | refine gos (k := ?_) | refine fun (_ : _ = false) => ?_ | refine ⟨fun (_ : true = true) => ?_, fun h => absurd h (by decide)⟩ | refine gtr (k := ?_)))
        refine ⟨fun h => ?_, fun h => ?_⟩
        · have hi : i < n.toNat := by have := of_decide_eq_true h; omega
          (repeat (first | refine gos (k := ?_) | refine fun (_ : _ = false) => ?_ | refine ⟨fun (_ : true = true) => ?_, fun h => absurd h (by decide)⟩ | refine gtr (k := ?_)))
          refine cdet (straight_vc i) Tryd.call64 [] ?_
          have hnb : (numB (l.take i) : Int) ≤ 18446744073709551615 := by
            have h1 := numB_lt (l.take i)
            have h2 : (l.take i).length ≤ 7 := by simp; omega
            have h3 : (256 : Nat) ^ (l.take i).length ≤ 256 ^ 7 := Nat.pow_le_pow_right (by decide) h2
            omega
          (repeat (first | refine gos (k := ?_) | refine fun (_ : _ = false) => ?_ | refine ⟨fun (_ : true = true) => ?_, fun h => absurd h (by decide)⟩ | refine gtr (k := ?_)))
          have hd : b.getD (at_ + i).toNat 0 = l.getD i 0 := by
            rw [hl, List.getD_eq_getElem?_getD, List.getD_eq_getElem?_getD, List.getElem?_take, if_pos hi, List.getElem?_drop, show (at_ + i).toNat = at_.toNat + i by omega]
          have hval : ((((numB (l.take i) : Int)).toNat ||| (((b.getD (at_ + i).toNat 0).toNat : Int) % 18446744073709551616 * 2 ^ (8 * (i : Int)).toNat % 18446744073709551616).toNat : Nat) : Int) = numB (l.take (i + 1)) := by
            have hc := (l.getD i 0).toNat_lt
            rw [hd, show ((l.getD i 0).toNat : Int) % 18446744073709551616 = (l.getD i 0).toNat by omega, Int.toNat_natCast, numB_or l i (by omega) (by omega)]
          rw [hval]
          refine back_at (i + 1) (by omega) (by show n.toNat - (i + 1) < n.toNat - i; omega) ?_ ?_
          · ((try dsimp only [lpS, anyT, putT, setL]); (repeat (refine And.intro (by first | exact trivial | exact rfl) ?_)); (first | exact trivial | skip))
          · ((try dsimp only [lpS, deadH, putH, setL, Nat.reduceAdd, Nat.zero_add]); (repeat (refine And.intro (by first | exact rfl | exact trivial) ?_)); (first | exact trivial | skip))
        · (repeat (first | refine gos (k := ?_) | refine fun (_ : _ = false) => ?_ | refine ⟨fun (_ : true = true) => ?_, fun h => absurd h (by decide)⟩ | refine gtr (k := ?_)))
          have hi : i = n.toNat := by have := of_decide_eq_false h; omega
          rw [hX, hi, ← hll, List.take_length]
          exact ⟨_, rfl, rfl⟩
    · rw [decide_eq_false hw]
      rw [if_neg (fun h => hw h.2)] at hX
      (repeat (first | refine gos (k := ?_) | refine fun (_ : _ = false) => ?_ | refine ⟨fun (_ : true = true) => ?_, fun h => absurd h (by decide)⟩ | refine gtr (k := ?_)))
      rw [hX]
      exact ⟨_, rfl, rfl⟩
  · rw [decide_eq_false hs]
    rw [if_neg (fun h => hs h.1)] at hX
    (repeat (first | refine gos (k := ?_) | refine fun (_ : _ = false) => ?_ | refine ⟨fun (_ : true = true) => ?_, fun h => absurd h (by decide)⟩ | refine gtr (k := ?_)))
    (refine sts (k := ?_))
    intro _
    (repeat (first | refine gos (k := ?_) | refine fun (_ : _ = false) => ?_ | refine ⟨fun (_ : true = true) => ?_, fun h => absurd h (by decide)⟩ | refine gtr (k := ?_)))
    rw [hX]
    exact ⟨_, rfl, rfl⟩
theorem Get_vc (b : List UInt8) (hb : b.length ≤ 140737488355328) (z : Nat) (at_ n : Int) (ha : I64 at_) (hn : I64 n) (X : Int × Int) (hX : X = if (n = 1 ∨ n = 2 ∨ n = 4 ∨ n = 8) ∧ 0 ≤ at_ ∧ 0 ≤ n ∧ at_ + n ≤ b.length then ((numB ((b.drop at_.toNat).take n.toNat) : Int), 0) else (0, 1)) : Spec Tryd.prog 58 [.bs z b, .val (.int .i64 at_), .val (.int .i64 n)] []
   (pst (.tup [.val (.int .u64 X.1), .val (.int .i64 X.2)]) []) := by
  refine spec_entry tbOk Tryd.func58 rfl Tryd.ntmps58 Tryd.results58 ?_
  (repeat (first | refine gos (k := ?_) | refine fun (_ : _ = false) => ?_ | refine ⟨fun (_ : true = true) => ?_, fun h => absurd h (by decide)⟩ | refine gtr (k := ?_)))
  refine cdet (get_vc b hb z at_ n ha hn X hX) Tryd.call68 [] ?_
  (repeat (first | refine gos (k := ?_) | refine fun (_ : _ = false) => ?_ | refine ⟨fun (_ : true = true) => ?_, fun h => absurd h (by decide)⟩ | refine gtr (k := ?_)))
  exact ⟨_, rfl, rfl⟩
theorem number_vc (b : List UInt8) (hb : b.length ≤ 140737488355328) (z : Nat) (at_ n : Int) (ha : I64 at_) (hn : n = 2 ∨ n = 4) (hw : 0 ≤ at_ ∧ at_ + n ≤ b.length) : Spec Tryd.prog 42 [.bs z b, .val (.int .i64 at_), .val (.int .i64 n)] []
   (pst (.val (.int .i64 (numB ((b.drop at_.toNat).take n.toNat)))) []) := by
  refine spec_entry tbOk Tryd.func42 rfl Tryd.ntmps42 Tryd.results42 ?_
  (repeat (first | refine gos (k := ?_) | refine fun (_ : _ = false) => ?_ | refine ⟨fun (_ : true = true) => ?_, fun h => absurd h (by decide)⟩ | refine gtr (k := ?_)))
  refine cdet (Get_vc b hb z at_ n ha (by unfold I64; omega) _ rfl) Tryd.call58 [] ?_
  rw [if_pos ⟨by omega, hw.1, by omega, hw.2⟩]
  have h1 := numB_lt ((b.drop at_.toNat).take n.toNat)
  have h2 : ((b.drop at_.toNat).take n.toNat).length ≤ 4 := by simp; omega
  have h3 : (256 : Nat) ^ ((b.drop at_.toNat).take n.toNat).length ≤ 256 ^ 4 := Nat.pow_le_pow_right (by decide) h2
  (repeat (first | refine gos (k := ?_) | refine fun (_ : _ = false) => ?_ | refine ⟨fun (_ : true = true) => ?_, fun h => absurd h (by decide)⟩ | refine gtr (k := ?_)))
  exact ⟨_, rfl, rfl⟩
end Go.Proofs.YtddocchgikaahaaDoor
