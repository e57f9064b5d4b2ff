/- Walks of octet: sized, within, straight; slices.Index, slices.Contains. Walks of octet: Put, get, Get. Walks of crc. Walks of slices.Grow, slices.Concat. Walks of bank: Need, head, lay. Walks of bank: parse. Conditions: the premises of each law. -/
import Derived.Test.YtmjpbmcbcppkfaaGreatDoorJAw
import Derived.Test.YtmjpbmcbcppkfaaGreatDoorJGf
import Derived.Test.YtmjpbmcbcppkfaaGreatDoorJAp
namespace Go.Proofs.YtmjpbmcbcppkfaaGreatDoor
open Go.RowKit
set_option linter.unusedVariables false
set_option linter.unusedSimpArgs false
set_option maxRecDepth 100000
set_option maxHeartbeats 1500000
theorem straight_vc (i : Int) : Spec Tryz.prog 94 [.val (.int .i64 i)] [] (pst (.val (.int .i64 i)) []) := by
 refine spec_entry tbOk Tryz.func94 rfl Tryz.ntmps94 Tryz.results94 ?_
 refine gg (k := ?_)
 exact ⟨_, rfl, rfl⟩
theorem within8_vc (z : Nat) (b : List UInt8) (hb : b.length ≤ 140737488355328) (i n : Int) (hi : I64 i) (hn : I64 n) : Spec Tryz.prog 125 [.bs z b, .val (.int .i64 i), .val (.int .i64 n)] [] (pst (.val (.bool (decide (0 ≤ i ∧ 0 ≤ n ∧ i + n ≤ b.length)))) []) := by
 refine spec_entry tbOk Tryz.func125 rfl Tryz.ntmps125 Tryz.results125 ?_
 refine gg (k := ?_)
 refine ⟨_, congrArg AV.val (congrArg Value.bool ?_), rfl⟩
 rw [Bool.eq_iff_iff]; simp; omega
theorem index_vc (n : Int) (ns : List Int) (hl : ns.length ≤ 140737488355328) (v0 : Nat) (r : Int) (hr : r = match ns.idxOf? n with | some i => (i : Int) | none => -1) : Spec Tryz.prog 219 [.own 0 v0 1 0 ns.length, .val (.int .i64 n)] [⟨v0, .row 1 (intF .i64) 0 ns⟩] (pst (.val (.int .i64 r)) [⟨v0, .row 1 (intF .i64) 0 ns⟩]) := by
 refine spec_entry tbOk Tryz.func219 rfl Tryz.ntmps219 Tryz.results219 ?_
 refine gg (k := ?_)
 (refine sts (k := ?_))
 conv => whnf
 refine loop_at (fun i : Nat => i ≤ ns.length ∧ ∀ j, j < i → ns[j]? ≠ some n) (fun i => ns.length - i) 1 [4, 5, 8, 9, 10, 11, 12, 13, 14, 15, 16, 17, 18] (fun i => [(8, .val (.int .i64 i))]) (fun _ => []) 0 ⟨Nat.zero_le _, fun j hj => absurd hj (Nat.not_lt_zero j)⟩ ?_ ?_ ?_
 ·exact no_implicit_lambda% ten
 ·exact no_implicit_lambda% hen
 ·rintro i v ⟨h1, h2⟩
  refine glp (k := ?_)
  refine gg (k := ?_)
  refine ⟨fun h => ?_, fun h => ?_⟩
  ·have hi : i < ns.length := by have := of_decide_eq_true h; omega
   refine gg (k := ?_)
   have hd : ns.getD (0 + (i : Int).toNat) 0 = ns[i] := by simp [hi]
   rw [hd]
   refine ⟨fun h => ?_, fun h => ?_⟩
   ·refine gg (k := ?_)
    have hn : n = ns[i] := of_decide_eq_true h
    refine ⟨_, ?_, rfl⟩
    have : ns.idxOf? n = some i := by
     rw [List.idxOf?, List.findIdx?_eq_some_iff_getElem]
     refine ⟨hi, by simp [hn], fun j hj => ?_⟩
     have := h2 j hj
     rw [List.getElem?_eq_getElem (by omega)] at this
     simpa using this
    rw [hr, this]; rfl
   ·refine gg (k := ?_)
    have hn : ¬ n = ns[i] := of_decide_eq_false h
    refine back_at (i + 1) ⟨by omega, fun j hj => ?_⟩ (by show ns.length - (i + 1) < ns.length - i; omega) ?_ ?_
    ·rcases Nat.lt_succ_iff_lt_or_eq.1 hj with hj | rfl
     ·exact h2 j hj
     ·rw [List.getElem?_eq_getElem hi]; exact fun q => hn (Option.some.inj q).symm
    ·exact no_implicit_lambda% ten
    ·exact no_implicit_lambda% hen
  ·refine gg (k := ?_)
   have hi : i = ns.length := by have := of_decide_eq_false h; omega
   refine ⟨_, ?_, rfl⟩
   have : ns.idxOf? n = none := by
    rw [List.idxOf?, List.findIdx?_eq_none_iff]
    intro x hx
    obtain ⟨j, hj, rfl⟩ := List.getElem_of_mem hx
    have := h2 j (by omega)
    rw [List.getElem?_eq_getElem hj] at this
    simpa using this
   rw [hr, this]; rfl
theorem contains_vc (n : Int) (ns : List Int) (hl : ns.length ≤ 140737488355328) (v0 : Nat) : Spec Tryz.prog 164 [.own 0 v0 1 0 ns.length, .val (.int .i64 n)] [⟨v0, .row 1 (intF .i64) 0 ns⟩] (pst (.val (.bool (decide (n ∈ ns)))) [⟨v0, .row 1 (intF .i64) 0 ns⟩]) := by
 obtain ⟨r, hr⟩ : ∃ r : Int, r = match ns.idxOf? n with | some i => (i : Int) | none => -1 := ⟨_, rfl⟩
 refine spec_entry tbOk Tryz.func164 rfl Tryz.ntmps164 Tryz.results164 ?_
 refine gg (k := ?_)
 refine cdet (index_vc n ns hl v0 r hr) Tryz.call219 [0] ?_
 refine gg (k := ?_)
 refine ⟨_, congrArg AV.val (congrArg Value.bool ?_), rfl⟩
 rw [Bool.eq_iff_iff, decide_eq_true_iff, decide_eq_true_iff, hr]
 split
 ·rename_i i hi
  simp only [Int.natCast_nonneg, true_iff]
  rw [List.idxOf?, List.findIdx?_eq_some_iff_getElem] at hi
  obtain ⟨h1, h2, _⟩ := hi
  have : ns[i] = n := by simpa using h2
  exact this ▸ List.getElem_mem h1
 ·rename_i hi
  rw [List.idxOf?, List.findIdx?_eq_none_iff] at hi
  constructor
  ·intro h; omega
  ·intro h; exact absurd (hi n h) (by simp)
theorem sized_vc (n : Int) : Spec Tryz.prog 124 [.val (.int .i64 n)] [] (pst (.val (.bool (decide (n = 1 ∨ n = 2 ∨ n = 4 ∨ n = 8)))) []) := by
 refine spec_entry tbOk Tryz.func124 rfl Tryz.ntmps124 Tryz.results124 ?_
 refine gg (k := ?_)
 refine cdet (contains_vc n [1, 2, 4, 8] (by decide) 2) Tryz.call164 [3] ?_
 refine gg (k := ?_)
 refine ⟨_, congrArg AV.val (congrArg Value.bool ?_), rfl⟩
 simp only [List.mem_cons, List.not_mem_nil, or_false]
theorem clone0_vc (l : List UInt8) (hl : l.length ≤ 140737488355328) (z : Nat) : Spec Tryz.prog 58 [.bs z l] []
   (pms (.own 5 2 1 0 l.length) [] [(5, ⟨2, .bytes l⟩)]) := by
 refine spec_entryW tbOk Tryz.func58 rfl Tryz.ntmps58 Tryz.results58 ?_
 refine gg (k := ?_)
 conv => whnf
 intro b hb
 cases b with
 | true =>
  have h0 := hb rfl
  have hl0 : l = [] := List.eq_nil_of_length_eq_zero h0
  subst hl0
  refine gg (k := ?_)
  (refine sts (k := ?_))
  refine ⟨_, leS_nil 5 2 (.bytes []) rfl (by decide) rfl (t' := [.any, .any, .own 5 2 1 0 0, .any, .any, .any, .any, .any]) ?_, ?_⟩
  ·simp [leTn, setD, setL, updH, evA, unA, getA, getL, constA, undefs, deads]
  refine gg (k := ?_)
  exact ⟨_, rfl, rfl, by simp [allM, getL]⟩
 | false =>
  refine gg (k := ?_)
  conv => whnf
  refine ⟨l, ?_⟩
  conv => whnf
  refine And.intro ?_ ?_
  ·refine ⟨rfl, trivial, rfl, rfl, rfl, rfl, rfl, rfl, ?_, by decide⟩
   simp only [List.map_nil, List.length_nil]
   omega
  refine gg (k := ?_)
  refine ⟨_, leS_refl _, ?_⟩
  refine gg (k := ?_)
  refine ⟨_, ?_, rfl, rfl, trivial⟩
  simp only [retV, List.map_nil, List.length_nil, Nat.zero_add]
def leB (n : Nat) (x : Int) : List UInt8 := (List.range n).map fun (i : Nat) => UInt8.ofNat (x / 2 ^ (8 * (i : Int)).toNat % 256).toNat
theorem leB_len (n : Nat) (x : Int) : (leB n x).length = n := by simp [leB]
theorem leB_succ (n : Nat) (x : Int) : leB (n + 1) x = leB n x ++ [UInt8.ofNat (x / 2 ^ (8 * (n : Int)).toNat % 256).toNat] := by simp [leB, List.range_succ]
theorem fill_step (l m : List UInt8) (k : Nat) (b : UInt8) : (l ++ (m ++ List.replicate (k + 1) 0)).set (l.length + m.length) b = l ++ ((m ++ [b]) ++ List.replicate k 0) := by
 rw [List.set_append_right _ _ (by omega), show l.length + m.length - l.length = m.length by omega, List.set_append_right _ _ (Nat.le_refl _), Nat.sub_self, List.replicate_succ, List.set_cons_zero]
 simp
theorem put_vc (l : List UInt8) (hl : l.length ≤ 1000000000) (z : Nat) (x : Int) (hx : 0 ≤ x ∧ x ≤ 18446744073709551615) (n : Int) (hn : n = 1 ∨ n = 2 ∨ n = 4 ∨ n = 8) : Spec Tryz.prog 128 [.bs z l, .val (.int .u64 x), .val (.int .i64 n), .clo 94 []] []
   (pms (.own 12 4 1 0 (l.length + n.toNat)) [] [(12, ⟨4, .bytes (l ++ leB n.toNat x)⟩)]) := by
 refine spec_entryW tbOk Tryz.func128 rfl Tryz.ntmps128 Tryz.results128 ?_
 refine gg (k := ?_)
 refine cmks (clone0_vc l (by omega) z) Tryz.call58 0 [0, 0, 0, 0, 0, 12] [0, 0, 0, 0, 0, 1] [5] ?_
 refine gg (k := ?_)
 refine cdet (sized_vc n) Tryz.call124 [] ?_
 have hs : decide (n = 1 ∨ n = 2 ∨ n = 4 ∨ n = 8) = true := by simpa using hn
 rw [hs]
 refine gg (k := ?_)
 conv => whnf
 refine ⟨List.replicate n.toNat 0, ?_⟩
 conv => whnf
 refine And.intro ?_ ?_
 ·refine ⟨rfl, ⟨by omega, by simp only [Nat.mul_one]; omega, by omega, rfl, rfl⟩, rfl, rfl, rfl, rfl, rfl, by simp [bcells, bv], ?_, by decide⟩
  simp only [List.length_replicate, Nat.mul_one]
  omega
 refine gg (k := ?_)
 (refine sts (k := ?_))
 conv => whnf
 simp only [List.length_replicate]
 refine loop_at (fun i : Nat => i ≤ n.toNat) (fun i => n.toNat - i) 0 [10, 21, 22, 23, 24, 25, 26, 27, 28, 29, 30, 31, 32, 33, 34, 35, 36, 37] (fun i => [(21, .val (.int .i64 i))]) (fun i => [(12, ⟨4, .bytes (l ++ (leB i x ++ List.replicate (n.toNat - i) 0))⟩)]) 0 (Nat.zero_le _) ?_ ?_ ?_
 ·exact no_implicit_lambda% ten
 ·exact no_implicit_lambda% hen
 ·rintro i v h1
  refine glp (k := ?_)
  refine gg (k := ?_)
  refine ⟨fun h => ?_, fun h => ?_⟩
  ·have hi : i < n.toNat := by have := of_decide_eq_true h; omega
   refine gg (k := ?_)
   (refine sts (k := ?_))
   refine draw_of (p := 0) tbOk hm [0, 0, 2, 0, 0, 24, 62, 0, 0, 256, 896, 1920, 4095, 8191] [⟨0, false, false, []⟩, ⟨1, false, false, []⟩, ⟨2, false, false, []⟩, ⟨3, false, false, []⟩, ⟨4, false, false, []⟩, ⟨7, false, false, []⟩, ⟨8, false, false, []⟩, ⟨9, false, false, []⟩, ⟨10, false, false, []⟩, ⟨11, false, false, []⟩, ⟨5, true, true, [24, 25, 26, 30, 31, 32, 33, 34, 35, 36]⟩, ⟨6, false, false, []⟩, ⟨12, true, false, []⟩, ⟨13, true, true, []⟩] (by kernel_rfl) ?_
   refine gg (k := ?_)
   refine cdet (straight_vc i) Tryz.call94 [] ?_
   refine gg (k := ?_)
   (refine sts (k := ?_))
   refine And.intro ?_ ?_
   ·refine ⟨rfl, rfl, rfl, ?_, ⟨by omega, by omega⟩, rfl⟩
    simp only [List.length_append, leB_len, List.length_replicate]
    omega
   refine gg (k := ?_)
   have hset : (l ++ (leB i x ++ List.replicate (n.toNat - i) 0)).set (0 + ((l.length : Int) + (i : Int)).toNat) (UInt8.ofNat (x / 2 ^ (8 * (i : Int)).toNat % 256).toNat) = l ++ (leB (i + 1) x ++ List.replicate (n.toNat - (i + 1)) 0) := by
    rw [leB_succ, ← fill_step, leB_len, show n.toNat - i = n.toNat - (i + 1) + 1 by omega, show 0 + ((l.length : Int) + (i : Int)).toNat = l.length + i by omega]
   refine back_at (i + 1) (by omega) (by show n.toNat - (i + 1) < n.toNat - i; omega) ?_ ?_
   ·exact no_implicit_lambda% ten
   ·rw [hset]
    exact no_implicit_lambda% hen
  ·refine gg (k := ?_)
   (refine sts (k := ?_))
   have hi : i = n.toNat := by have := of_decide_eq_false h; omega
   subst hi
   refine ⟨_, leS_refl _, ?_⟩
   refine gg (k := ?_)
   refine ⟨_, rfl, rfl, ?_, trivial⟩
   simp only [Nat.sub_self, List.replicate_zero, List.append_nil]
   rfl
end Go.Proofs.YtmjpbmcbcppkfaaGreatDoor
namespace Go.Proofs.YtmjpbmcbcppkfaaGreatDoor
open Go.RowKit
set_option linter.unusedVariables false
set_option linter.unusedSimpArgs false
set_option maxRecDepth 100000
set_option maxHeartbeats 1500000
theorem Put_vc (l : List UInt8) (hl : l.length ≤ 1000000000) (z : Nat) (x : Int) (hx : 0 ≤ x ∧ x ≤ 18446744073709551615) (n : Int) (hn : n = 1 ∨ n = 2 ∨ n = 4 ∨ n = 8) : Spec Tryz.prog 98 [.bs z l, .val (.int .u64 x), .val (.int .i64 n)] []
   (pms (.own 7 5 1 0 (l.length + n.toNat)) [] [(7, ⟨5, .bytes (l ++ leB n.toNat x)⟩)]) := by
 refine spec_entry tbOk Tryz.func98 rfl Tryz.ntmps98 Tryz.results98 ?_
 refine gg (k := ?_)
 refine cmks (put_vc l hl z x hx n hn) Tryz.call128 0 [0, 0, 0, 0, 0, 0, 0, 0, 0, 0, 0, 0, 7] [0, 0, 0, 0, 0, 0, 0, 0, 0, 0, 0, 0, 1] [12] ?_
 refine gg (k := ?_)
 exact ⟨_, rfl, rfl, rfl, trivial⟩
def numB : List UInt8 → Nat
 | [] => 0
 | c :: l => c.toNat + 256 * numB l
theorem numB_lt : ∀ (l : List UInt8), numB l < 256 ^ l.length
 | [] => by simp [numB]
 | c :: l => by
  have := numB_lt l
  have hc := c.toNat_lt
  simp only [numB, List.length_cons, Nat.pow_succ]
  omega
theorem numB_snoc (c : UInt8) : ∀ (l : List UInt8), numB (l ++ [c]) = 256 ^ l.length * c.toNat + numB l
 | [] => by simp [numB]
 | d :: l => by
  simp only [List.cons_append, numB, numB_snoc c l, List.length_cons, Nat.pow_succ]
  rw [Nat.mul_add, Nat.mul_comm (256 ^ l.length) 256, Nat.mul_assoc]
  omega
theorem numB_or (l : List UInt8) (i : Nat) (hi : i < l.length) (h8 : i ≤ 7) : (numB (l.take i) ||| (((l.getD i 0).toNat : Int) * 2 ^ (8 * (i : Int)).toNat % 18446744073709551616).toNat) = numB (l.take (i + 1)) := by
 have h1 := numB_lt (l.take i)
 have hlen : (l.take i).length = i := by simp; omega
 rw [hlen] at h1
 have hp : (256 : Nat) ^ i = 2 ^ (8 * i) := by rw [show (256 : Nat) = 2 ^ 8 from rfl, ← Nat.pow_mul]
 have hb : (256 : Nat) ^ i ≤ 256 ^ 7 := Nat.pow_le_pow_right (by decide) h8
 have hc := (l.getD i 0).toNat_lt
 have e1 : (8 * (i : Int)).toNat = 8 * i := by omega
 have e2 : ((l.getD i 0).toNat : Int) * 2 ^ (8 * (i : Int)).toNat = ((256 ^ i * (l.getD i 0).toNat : Nat) : Int) := by
  rw [e1, hp]
  push_cast
  exact Int.mul_comm _ _
 have h3 : 256 ^ i * (l.getD i 0).toNat < 18446744073709551616 := by
  have : 256 ^ i * (l.getD i 0).toNat ≤ 256 ^ 7 * 255 := Nat.mul_le_mul hb (by omega)
  omega
 rw [e2, show (((256 ^ i * (l.getD i 0).toNat : Nat) : Int) % 18446744073709551616).toNat = 256 ^ i * (l.getD i 0).toNat by omega]
 have h4 : l.take (i + 1) = l.take i ++ [l.getD i 0] := by
  rw [List.take_add_one, List.getElem?_eq_getElem hi]; simp [hi]
 rw [h4, numB_snoc, hlen, Nat.or_comm, hp, Nat.two_pow_add_eq_or_of_lt (by rw [← hp]; exact h1)]
theorem get_vc (b : List UInt8) (hb : b.length ≤ 140737488355328) (z : Nat) (at_ n : Int) (ha : I64 at_) (hn : I64 n) (X : Int × Int) (hX : X = if (n = 1 ∨ n = 2 ∨ n = 4 ∨ n = 8) ∧ 0 ≤ at_ ∧ 0 ≤ n ∧ at_ + n ≤ b.length then ((numB ((b.drop at_.toNat).take n.toNat) : Int), 0) else (0, 1)) : Spec Tryz.prog 93 [.bs z b, .val (.int .i64 at_), .val (.int .i64 n), .clo 94 []] []
   (pst (.tup [.val (.int .u64 X.1), .val (.int .i64 X.2)]) []) := by
 refine spec_entry tbOk Tryz.func93 rfl Tryz.ntmps93 Tryz.results93 ?_
 refine gg (k := ?_)
 refine cdet (sized_vc n) Tryz.call124 [] ?_
 by_cases hs : n = 1 ∨ n = 2 ∨ n = 4 ∨ n = 8
 ·rw [decide_eq_true hs]
  refine gg (k := ?_)
  (refine sts (k := ?_))
  refine gcl (k := ?_)
  refine cdet (within8_vc z b hb at_ n ha hn) Tryz.call125 [] ?_
  by_cases hw : 0 ≤ at_ ∧ 0 ≤ n ∧ at_ + n ≤ b.length
  ·rw [decide_eq_true hw]
   rw [if_pos ⟨hs, hw⟩] at hX
   refine gg (k := ?_)
   (refine sts (k := ?_))
   conv => whnf
   obtain ⟨l, hl⟩ : ∃ l, l = (b.drop at_.toNat).take n.toNat := ⟨_, rfl⟩
   rw [← hl] at hX
   have hll : l.length = n.toNat := by rw [hl]; simp; omega
   refine loop_at (fun i : Nat => i ≤ n.toNat) (fun i => n.toNat - i) 0 [8, 10, 22, 23, 24, 25, 26, 27, 28, 29, 30, 31, 32, 33, 34, 35, 36, 37, 38, 39] (fun i => [(8, .val (.int .u64 (numB (l.take i)))), (22, .val (.int .i64 i))]) (fun i => []) 0 (Nat.zero_le _) ?_ ?_ ?_
   ·exact no_implicit_lambda% ten
   ·exact no_implicit_lambda% hen
   ·rintro i v h1
    refine glp (k := ?_)
    refine gg (k := ?_)
    refine ⟨fun h => ?_, fun h => ?_⟩
    ·have hi : i < n.toNat := by have := of_decide_eq_true h; omega
     refine gg (k := ?_)
     refine cdet (straight_vc i) Tryz.call94 [] ?_
     have hnb : (numB (l.take i) : Int) ≤ 18446744073709551615 := by
      have h1 := numB_lt (l.take i)
      have h2 : (l.take i).length ≤ 7 := by simp; omega
      have h3 : (256 : Nat) ^ (l.take i).length ≤ 256 ^ 7 := Nat.pow_le_pow_right (by decide) h2
      omega
     refine gg (k := ?_)
     have hd : b.getD (at_ + i).toNat 0 = l.getD i 0 := by
      rw [hl, List.getD_eq_getElem?_getD, List.getD_eq_getElem?_getD, List.getElem?_take, if_pos hi, List.getElem?_drop, show (at_ + i).toNat = at_.toNat + i by omega]
     have hval : ((((numB (l.take i) : Int)).toNat ||| (((b.getD (at_ + i).toNat 0).toNat : Int) % 18446744073709551616 * 2 ^ (8 * (i : Int)).toNat % 18446744073709551616).toNat : Nat) : Int) = numB (l.take (i + 1)) := by
      have hc := (l.getD i 0).toNat_lt
      rw [hd, show ((l.getD i 0).toNat : Int) % 18446744073709551616 = (l.getD i 0).toNat by omega, Int.toNat_natCast, numB_or l i (by omega) (by omega)]
     rw [hval]
     refine back_at (i + 1) (by omega) (by show n.toNat - (i + 1) < n.toNat - i; omega) ?_ ?_
     ·exact no_implicit_lambda% ten
     ·exact no_implicit_lambda% hen
    ·refine gg (k := ?_)
     have hi : i = n.toNat := by have := of_decide_eq_false h; omega
     rw [hX, hi, ← hll, List.take_length]
     exact ⟨_, rfl, rfl⟩
  ·rw [decide_eq_false hw]
   rw [if_neg (fun h => hw h.2)] at hX
   refine gg (k := ?_)
   rw [hX]
   exact ⟨_, rfl, rfl⟩
 ·rw [decide_eq_false hs]
  rw [if_neg (fun h => hs h.1)] at hX
  refine gg (k := ?_)
  (refine sts (k := ?_))
  intro _
  refine gg (k := ?_)
  rw [hX]
  exact ⟨_, rfl, rfl⟩
theorem Get_vc (b : List UInt8) (hb : b.length ≤ 140737488355328) (z : Nat) (at_ n : Int) (ha : I64 at_) (hn : I64 n) (X : Int × Int) (hX : X = if (n = 1 ∨ n = 2 ∨ n = 4 ∨ n = 8) ∧ 0 ≤ at_ ∧ 0 ≤ n ∧ at_ + n ≤ b.length then ((numB ((b.drop at_.toNat).take n.toNat) : Int), 0) else (0, 1)) : Spec Tryz.prog 56 [.bs z b, .val (.int .i64 at_), .val (.int .i64 n)] []
   (pst (.tup [.val (.int .u64 X.1), .val (.int .i64 X.2)]) []) := by
 refine spec_entry tbOk Tryz.func56 rfl Tryz.ntmps56 Tryz.results56 ?_
 refine gg (k := ?_)
 refine cdet (get_vc b hb z at_ n ha hn X hX) Tryz.call93 [] ?_
 refine gg (k := ?_)
 exact ⟨_, rfl, rfl⟩
theorem number_vc (b : List UInt8) (hb : b.length ≤ 140737488355328) (z : Nat) (at_ n : Int) (ha : I64 at_) (hn : n = 2 ∨ n = 4) (hw : 0 ≤ at_ ∧ at_ + n ≤ b.length) : Spec Tryz.prog 148 [.bs z b, .val (.int .i64 at_), .val (.int .i64 n)] []
   (pst (.val (.int .i64 (numB ((b.drop at_.toNat).take n.toNat)))) []) := by
 refine spec_entry tbOk Tryz.func148 rfl Tryz.ntmps148 Tryz.results148 ?_
 refine gg (k := ?_)
 refine cdet (Get_vc b hb z at_ n ha (by unfold I64; omega) _ rfl) Tryz.call56 [] ?_
 rw [if_pos ⟨by omega, hw.1, by omega, hw.2⟩]
 have h1 := numB_lt ((b.drop at_.toNat).take n.toNat)
 have h2 : ((b.drop at_.toNat).take n.toNat).length ≤ 4 := by simp; omega
 have h3 : (256 : Nat) ^ ((b.drop at_.toNat).take n.toNat).length ≤ 256 ^ 4 := Nat.pow_le_pow_right (by decide) h2
 refine gg (k := ?_)
 exact ⟨_, rfl, rfl⟩
end Go.Proofs.YtmjpbmcbcppkfaaGreatDoor
namespace Go.Proofs.YtmjpbmcbcppkfaaGreatDoor
open Go.RowKit
set_option linter.unusedVariables false
set_option linter.unusedSimpArgs false
set_option maxRecDepth 100000
set_option maxHeartbeats 1500000
def crcT : List Int := [0, 498536548, 997073096, 651767980, 1994146192, 1802195444, 1303535960, 1342533948, 3988292384, 4027552580, 3604390888, 3412177804, 2607071920, 2262029012, 2685067896, 3183342108]
def crcS (x : Int) : Int := (((x / 2 ^ (4 : Int).toNat).toNat ^^^ (crcT.getD ((x.toNat &&& 15 : Nat) : Int).toNat 0).toNat : Nat) : Int)
def crcN : Nat → Int → Int
 | 0, x => x
 | n + 1, x => crcN n (crcS x)
def crcF : List UInt8 → Int → Int
 | [], x => x
 | c :: l, x => crcF l (crcN 2 ((x.toNat ^^^ c.toNat : Nat) : Int))
theorem xor_bound {a b : Nat} (ha : a ≤ 4294967295) (hb : b ≤ 4294967295) : a ^^^ b ≤ 4294967295 := by
 have : a ^^^ b < 2 ^ 32 := Nat.xor_lt_two_pow (by omega) (by omega)
 omega
theorem crcT_bound (i : Nat) : 0 ≤ crcT.getD i 0 ∧ crcT.getD i 0 ≤ 4294967295 := by
 by_cases h : i < 16
 ·have : ∀ i, i < 16 → 0 ≤ crcT.getD i 0 ∧ crcT.getD i 0 ≤ 4294967295 := by decide
  exact this i h
 ·rw [List.getD_eq_getElem?_getD, List.getElem?_eq_none (by simp [crcT]; omega)]; decide
theorem crcS_bound {x : Int} (h : 0 ≤ x ∧ x ≤ 4294967295) : 0 ≤ crcS x ∧ crcS x ≤ 4294967295 := by
 have ht := crcT_bound ((x.toNat &&& 15 : Nat) : Int).toNat
 unfold crcS
 have h1 : (2 : Int) ^ (4 : Int).toNat = 16 := rfl
 rw [h1]
 have := xor_bound (a := (x / 16).toNat) (b := (crcT.getD ((x.toNat &&& 15 : Nat) : Int).toNat 0).toNat) (by omega) (by omega)
 omega
theorem crcN_bound : ∀ (n : Nat) {x : Int}, 0 ≤ x ∧ x ≤ 4294967295 → 0 ≤ crcN n x ∧ crcN n x ≤ 4294967295
 | 0, x, h => h
 | n + 1, x, h => crcN_bound n (crcS_bound h)
theorem extend_vc (b : List UInt8) (hb : b.length ≤ 140737488355328) (z : Nat) (x : Int) (hx : 0 ≤ x ∧ x ≤ 4294967295) : Spec Tryz.prog 209 [.val (.int .u32 x), .bs z b] []
   (pst (.val (.int .u32 (4294967295 - crcF b (4294967295 - x)))) []) := by
 refine spec_entry tbOk Tryz.func209 rfl Tryz.ntmps209 Tryz.results209 ?_
 obtain ⟨R, hR⟩ : ∃ R, R = crcF b (4294967295 - x) := ⟨_, rfl⟩
 rw [← hR]
 refine gg (k := ?_)
 (refine sts (k := ?_))
 conv => whnf
 refine loop_at (fun y : Nat × Int => y.1 ≤ b.length ∧ (0 ≤ y.2 ∧ y.2 ≤ 4294967295) ∧ crcF (b.drop y.1) y.2 = R) (fun y => b.length - y.1) 0 [5, 7, 12, 13, 14, 15, 16, 17, 18, 19, 20, 21, 22, 23, 24, 25, 26, 27, 28, 29, 30] (fun y => [(5, .val (.int .u32 y.2)), (12, .val (.int .i64 y.1))]) (fun i => []) (0, 4294967295 - x) ⟨Nat.zero_le _, by omega, hR.symm⟩ ?_ ?_ ?_
 ·exact no_implicit_lambda% ten
 ·exact no_implicit_lambda% hen
 ·rintro ⟨i, y⟩ v ⟨h1, h2, h3⟩
  simp only at h1 h2 h3
  refine glp (k := ?_)
  refine gg (k := ?_)
  refine ⟨fun h => ?_, fun h => ?_⟩
  ·have hi : i < b.length := by have := of_decide_eq_true h; omega
   refine gg (k := ?_)
   have hc := (b.getD (i : Int).toNat 0).toNat_lt
   have hce : (b.getD (i : Int).toNat 0).toNat = (b.getD i 0).toNat := by rw [Int.toNat_natCast]
   obtain ⟨y0, hy0⟩ : ∃ y0 : Int, y0 = ((y.toNat ^^^ (((b.getD (i : Int).toNat 0).toNat : Int) % 4294967296).toNat : Nat) : Int) := ⟨_, rfl⟩
   rw [← hy0]
   have hb0 : 0 ≤ y0 ∧ y0 ≤ 4294967295 := by
    have := xor_bound (a := y.toNat) (b := (((b.getD (i : Int).toNat 0).toNat : Int) % 4294967296).toNat) (by omega) (by omega)
    omega
   have hnx : crcF (b.drop (i + 1)) (crcN 2 y0) = R := by
    rw [← h3, List.drop_eq_getElem_cons hi, crcF, hy0]
    congr 2
    rw [show (((b.getD (i : Int).toNat 0).toNat : Int) % 4294967296).toNat = (b[i]).toNat by simp only [Int.toNat_natCast, List.getD_eq_getElem?_getD, List.getElem?_eq_getElem hi, Option.getD_some]; have := (b[i]).toNat_lt; omega]
   (refine sts (k := ?_))
   conv => whnf
   refine loop_at (fun q : Nat × Int => q.1 ≤ 2 ∧ (0 ≤ q.2 ∧ q.2 ≤ 4294967295) ∧ crcN (2 - q.1) q.2 = crcN 2 y0) (fun q => 2 - q.1) 0 [5, 20, 21, 22, 23, 24, 25, 26, 27, 28, 29] (fun q => [(5, .val (.int .u32 q.2)), (20, .val (.int .i64 q.1))]) (fun i => []) (0, y0) ⟨Nat.zero_le _, hb0, rfl⟩ ?_ ?_ ?_
   ·exact no_implicit_lambda% ten
   ·exact no_implicit_lambda% hen
   ·rintro ⟨j, q⟩ v ⟨g1, g2, g3⟩
    simp only at g1 g2 g3
    refine glp (k := ?_)
    refine gg (k := ?_)
    refine ⟨fun h => ?_, fun h => ?_⟩
    ·have hj : j < 2 := by have := of_decide_eq_true h; omega
     have hand : q.toNat &&& 15 ≤ 15 := Nat.and_le_right
     refine gg (k := ?_)
     (refine sts (k := ?_))
     refine And.intro ?_ ?_
     ·refine ⟨by omega, ?_, rfl, rfl, by decide⟩
      exact Int.ofNat_lt.2 (Nat.lt_succ_of_le hand)
     have ht := crcT_bound ((q.toNat &&& Int.toNat 15 : Nat) : Int).toNat
     unfold crcT at ht
     have hq : 0 ≤ q / 2 ^ Int.toNat 4 ∧ q / 2 ^ Int.toNat 4 ≤ 4294967295 := by
      have : (2 : Int) ^ Int.toNat 4 = 16 := rfl
      rw [this]; omega
     refine gg (k := ?_)
     refine back_at (j + 1, crcS q) ⟨by show j + 1 ≤ 2; omega, crcS_bound g2, ?_⟩ (by show 2 - (j + 1) < 2 - j; omega) ?_ ?_
     ·show crcN (2 - (j + 1)) (crcS q) = _
      rw [← g3, show 2 - j = 2 - (j + 1) + 1 by omega, crcN]
     ·exact no_implicit_lambda% ten
     ·exact no_implicit_lambda% hen
    ·refine gg (k := ?_)
     have hj : j = 2 := by have := of_decide_eq_false h; omega
     rw [hj] at g3
     refine back_at (i + 1, q) ⟨by show i + 1 ≤ b.length; omega, g2, ?_⟩ (by show b.length - (i + 1) < b.length - i; omega) ?_ ?_
     ·show crcF (b.drop (i + 1)) q = R
      rw [← hnx, ← g3]; rfl
     ·exact no_implicit_lambda% ten
     ·exact no_implicit_lambda% hen
  ·refine gg (k := ?_)
   have hi : i = b.length := by have := of_decide_eq_false h; omega
   rw [hi, List.drop_length, crcF] at h3
   rw [h3]
   exact ⟨_, rfl, rfl⟩
theorem sum_vc (b : List UInt8) (hb : b.length ≤ 140737488355328) (z : Nat) : Spec Tryz.prog 204 [.bs z b] []
   (pst (.val (.int .u32 (4294967295 - crcF b (4294967295 - 0)))) []) := by
 refine spec_entry tbOk Tryz.func204 rfl Tryz.ntmps204 Tryz.results204 ?_
 refine gg (k := ?_)
 refine cdet (extend_vc b hb z 0 (by decide)) Tryz.call209 [] ?_
 refine gg (k := ?_)
 exact ⟨_, rfl, rfl⟩
end Go.Proofs.YtmjpbmcbcppkfaaGreatDoor
namespace Go.Proofs.YtmjpbmcbcppkfaaGreatDoor
open Go.RowKit
set_option linter.unusedVariables false
set_option linter.unusedSimpArgs false
set_option maxRecDepth 100000
set_option maxHeartbeats 1500000
theorem grow_vc (n : Nat) (hn : n ≤ 1000000000) : Spec Tryz.prog 100 [.val (.slice none 0 0), .val (.int .i64 n)] [] (pms (.own 22 2 1 0 0) [] [(22, ⟨2, .bytes []⟩)]) := by
 refine spec_entryW tbOk Tryz.func100 rfl Tryz.ntmps100 Tryz.results100 ?_
 have h0 : decide ((n : Int) < 0) = false := by simp
 refine gg (k := ?_)
 rw [h0]
 refine gg (k := ?_)
 refine ⟨fun h => ?_, fun h => ?_⟩
 ·refine gg (k := ?_)
  conv => whnf
  refine ⟨List.replicate n 0, ?_⟩
  conv => whnf
  refine And.intro ?_ ?_
  ·refine ⟨⟨by omega, by simp only [Nat.mul_one]; omega, by omega, rfl, rfl⟩, rfl, rfl, ?_, ?_, by decide⟩
   ·rw [show ((n : Int) - (0 - 0)).toNat = n by omega]; simp [bcells, bv]
   ·simp only [List.length_replicate, Nat.mul_one]; omega
  refine gg (k := ?_)
  (refine sts (k := ?_))
  refine ⟨_, leS_row 22 ⟨2, .bytes []⟩ rfl (WeakE.take 2 _ 0), ?_⟩
  refine gg (k := ?_)
  exact ⟨_, rfl, rfl, rfl, trivial⟩
 ·refine gg (k := ?_)
  (refine sts (k := ?_))
  refine ⟨_, leS_nil 22 2 (.bytes []) rfl (by decide) rfl (t' := [.any, .any, .any, .any, .own 22 2 1 0 0, .any, .any, .any, .any, .any, .any, .any, .any, .any, .any, .any, .any, .any, .any, .any, .any, .any, .any, .any, .any, .any, .any]) ?_, ?_⟩
  ·simp [leTn, setD, setL, updH, evA, unA, getA, getL, constA, undefs, deads]
  refine gg (k := ?_)
  exact ⟨_, rfl, rfl, rfl, trivial⟩
theorem flat_succ (ls : List (List UInt8)) (i : Nat) (hi : i < ls.length) : (ls.take (i + 1)).flatten = (ls.take i).flatten ++ ls.getD i [] := by
 have h1 : ls.take (i + 1) = ls.take i ++ [ls[i]] := by rw [List.take_add_one, List.getElem?_eq_getElem hi]; rfl
 rw [h1, List.flatten_append, List.getD_eq_getElem?_getD, List.getElem?_eq_getElem hi]
 simp only [List.flatten_cons, List.flatten_nil, List.append_nil, Option.getD_some]
theorem flat_le (ls : List (List UInt8)) (i : Nat) : (ls.take i).flatten.length ≤ ls.flatten.length := by
 have : ls.flatten = (ls.take i).flatten ++ (ls.drop i).flatten := by rw [← List.flatten_append, List.take_append_drop]
 rw [this, List.length_append]; omega
theorem concat_vc (ls : List (List UInt8)) (hls : ls.length ≤ 1000) (hl : ls.flatten.length ≤ 1000000000) (z : Nat) : Spec Tryz.prog 63 [.sl z 1 (fun l => [.bs 0 l]) [] ls] [] (pms (.own 24 (3 + ls.length) 1 0 ls.flatten.length) [] [(24, ⟨3 + ls.length, .bytes ls.flatten⟩)]) := by
 refine spec_entryW tbOk Tryz.func63 rfl Tryz.ntmps63 Tryz.results63 ?_
 refine gg (k := ?_)
 (refine sts (k := ?_))
 conv => whnf
 refine loop_at (fun i : Nat => i ≤ ls.length) (fun i => ls.length - i) 0 [3, 5, 11, 12, 13, 14, 15, 16, 17, 18, 19, 20, 21, 22] (fun i => [(3, .val (.int .i64 (ls.take i).flatten.length)), (11, .val (.int .i64 i))]) (fun i => []) 0 (Nat.zero_le _) ?_ ?_ ?_
 ·exact no_implicit_lambda% ten
 ·exact no_implicit_lambda% hen
 ·rintro i v h1
  refine glp (k := ?_)
  refine gg (k := ?_)
  refine ⟨fun h => ?_, fun h => ?_⟩
  ·have hi : i < ls.length := by have := of_decide_eq_true h; omega
   have hs := flat_succ ls i hi
   have hle := flat_le ls (i + 1)
   have hlen := congrArg List.length hs
   rw [List.length_append] at hlen
   have hd : ls.getD ((i : Nat) : Int).toNat [] = ls.getD i [] := by rw [Int.toNat_natCast]
   rw [← hd] at hlen
   have hlt : decide (((ls.take i).flatten.length : Int) + ((ls.getD ((i : Nat) : Int).toNat []).length : Int) < 0) = false := decide_eq_false (by omega)
   refine gg (k := ?_)
   rw [hlt]
   refine gg (k := ?_)
   refine back_at (i + 1) (by omega) (by show ls.length - (i + 1) < ls.length - i; omega) ?_ ?_
   ·rw [← Int.natCast_add, ← hlen]
    exact no_implicit_lambda% ten
   ·exact no_implicit_lambda% hen
  ·refine gg (k := ?_)
   have hi : i = ls.length := by have := of_decide_eq_false h; omega
   subst hi
   rw [List.take_length]
   refine cmks (grow_vc ls.flatten.length hl) Tryz.call100 0 [0, 0, 0, 0, 0, 0, 0, 0, 0, 0, 0, 0, 0, 0, 0, 0, 0, 0, 0, 0, 0, 0, 24] [0, 0, 0, 0, 0, 0, 0, 0, 0, 0, 0, 0, 0, 0, 0, 0, 0, 0, 0, 0, 0, 0, 1] [22] ?_
   refine gg (k := ?_)
   (refine sts (k := ?_))
   conv => whnf
   refine loop_at (fun i : Nat => i ≤ ls.length) (fun i => ls.length - i) 0 [6, 8, 27, 28, 29, 30, 31, 32, 33, 34] (fun i => [(6, .own 24 (3 + i) 1 0 (ls.take i).flatten.length), (27, .val (.int .i64 i))]) (fun i => [(24, ⟨3 + i, .bytes (ls.take i).flatten⟩)]) 0 (Nat.zero_le _) ?_ ?_ ?_
   ·exact no_implicit_lambda% ten
   ·exact no_implicit_lambda% hen
   ·rintro i v h1
    refine glp (k := ?_)
    refine gg (k := ?_)
    refine ⟨fun h => ?_, fun h => ?_⟩
    ·have hi : i < ls.length := by have := of_decide_eq_true h; omega
     have hs := flat_succ ls i hi
     have hle := flat_le ls (i + 1)
     have hlen := congrArg List.length hs
     rw [List.length_append] at hlen
     have hd : ls.getD ((i : Nat) : Int).toNat [] = ls.getD i [] := by rw [Int.toNat_natCast]
     refine gg (k := ?_)
     conv => whnf
     refine ⟨ls.getD ((i : Nat) : Int).toNat [], ?_⟩
     conv => whnf
     refine And.intro ?_ ?_
     ·refine ⟨rfl, trivial, rfl, rfl, rfl, rfl, rfl, rfl, ?_, by decide⟩
      rw [hd]
      simp only [Nat.mul_one]; omega
     refine gg (k := ?_)
     rw [hd, ← hlen, ← hs]
     refine back_at (i + 1) (by omega) (by show ls.length - (i + 1) < ls.length - i; omega) ?_ ?_
     ·exact no_implicit_lambda% ten
     ·exact no_implicit_lambda% hen
    ·have hi : i = ls.length := by have := of_decide_eq_false h; omega
     subst hi
     rw [List.take_length]
     refine gg (k := ?_)
     (refine sts (k := ?_))
     refine ⟨_, leS_refl _, ?_⟩
     refine gg (k := ?_)
     exact ⟨_, rfl, rfl, rfl, trivial⟩
end Go.Proofs.YtmjpbmcbcppkfaaGreatDoor
namespace Go.Proofs.YtmjpbmcbcppkfaaGreatDoor
open Go.RowKit
set_option linter.unusedVariables false
set_option linter.unusedSimpArgs false
set_option maxRecDepth 100000
set_option maxHeartbeats 1500000
theorem own1 {P : Program} {f : FuncId} {rest : List AV} {X : AV} {mk : List (Nat × Ent)} {l : List UInt8} (o n : Nat) (h : o + n ≤ l.length) (S : Spec P f (.bs 0 ((l.drop o).take n) :: rest) [] (pms X [] mk)) (hX : zfA X) (hmk : zfM mk) (hrest : ∀ rows, AsL rows rest rest) (v : Nat) :
    Spec P f (.own 0 v 1 o n :: rest) [⟨v, .bytes l⟩] (pms (renA (shR 1) X) [⟨v, .bytes l⟩] (shM 1 mk)) :=
 spec_ro S hX hmk (rows := [⟨v, .bytes l⟩]) (args := .own 0 v 1 o n :: rest) (asL_cons (as_own (l := l) rfl h) (hrest _))
theorem whole (l : List UInt8) : (l.drop 0).take l.length = l := by rw [List.drop_zero, List.take_length]
theorem Put_own (l : List UInt8) (L : Nat) (hL : L = l.length) (hl : L ≤ 1000000000) (v : Nat) (x : Int) (hx : 0 ≤ x ∧ x ≤ 18446744073709551615) (n : Int) (hn : n = 1 ∨ n = 2 ∨ n = 4 ∨ n = 8) (R : List UInt8) (K : Nat) (hR : R = l ++ leB n.toNat x) (hK : K = L + n.toNat) : Spec Tryz.prog 98 [.own 0 v 1 0 L, .val (.int .u64 x), .val (.int .i64 n)] [⟨v, .bytes l⟩]
   (pms (.own 8 5 1 0 K) [⟨v, .bytes l⟩] [(8, ⟨5, .bytes R⟩)]) := by
 subst hL hR hK
 have h := own1 (l := l) 0 l.length (by omega) (Put_vc ((l.drop 0).take l.length) (by rw [whole]; exact hl) 0 x hx n hn) trivial ⟨trivial, trivial⟩ (fun _ => asL_cons as_val (asL_cons as_val asL_nil)) v
 rw [whole] at h
 exact h
def crcE (s : Int) (b : List UInt8) : Int := 4294967295 - crcF b (4294967295 - s)
theorem crcF_bound : ∀ (b : List UInt8) {x : Int}, 0 ≤ x ∧ x ≤ 4294967295 → 0 ≤ crcF b x ∧ crcF b x ≤ 4294967295
 | [], x, h => h
 | c :: b, x, h => by
  rw [crcF]
  have hc := c.toNat_lt
  have := xor_bound (a := x.toNat) (b := c.toNat) (by omega) (by omega)
  exact crcF_bound b (crcN_bound 2 (by omega))
theorem crcE_bound (b : List UInt8) {x : Int} (h : 0 ≤ x ∧ x ≤ 4294967295) : 0 ≤ crcE x b ∧ crcE x b ≤ 4294967295 := by
 have := crcF_bound b (x := 4294967295 - x) (by omega)
 unfold crcE; omega
theorem sum_own (l : List UInt8) (L : Nat) (hL : L = l.length) (hl : l.length ≤ 140737488355328) (v : Nat) : Spec Tryz.prog 204 [.own 0 v 1 0 L] [⟨v, .bytes l⟩] (pms (.val (.int .u32 (crcE 0 l))) [⟨v, .bytes l⟩] []) := by
 subst hL
 have h := own1 (l := l) 0 l.length (by omega) (spec_pms (sum_vc ((l.drop 0).take l.length) (by rw [whole]; exact hl) 0)) trivial trivial (fun _ => asL_nil) v
 rw [whole] at h
 exact h
theorem need_vc (k v : Int) (hk : 0 ≤ k ∧ k ≤ 4611686018427387903) (hv : 0 ≤ v ∧ v ≤ 4611686018427387000) : Spec Tryz.prog 112 [.val (.int .i64 k), .val (.int .i64 v)] [] (pst (.val (.int .i64 (12 + k + v))) []) := by
 refine spec_entry tbOk Tryz.func112 rfl Tryz.ntmps112 Tryz.results112 ?_
 refine gg (k := ?_)
 exact ⟨_, rfl, rfl⟩
def headX (g : Int) : List UInt8 := [76, 78, 84, 76] ++ leB 4 g
def headB (g : Int) : List UInt8 := headX g ++ leB 4 (crcE 0 (headX g))
theorem headX_len (g : Int) : (headX g).length = 8 := by simp [headX, leB_len]
theorem headB_len (g : Int) : (headB g).length = 12 := by simp [headB, headX_len, leB_len]
theorem head_vc (g : Int) (hg : 0 ≤ g ∧ g ≤ 4294967295) : Spec Tryz.prog 149 [.val (.int .u32 g)] [] (pms (.own 13 6 1 0 12) [] [(13, ⟨6, .bytes (headB g)⟩)]) := by
 have hb := crcE_bound (headX g) (x := 0) (by decide)
 refine spec_entry tbOk Tryz.func149 rfl Tryz.ntmps149 Tryz.results149 ?_
 refine gg (k := ?_)
 refine cmks (Put_own [76, 78, 84, 76] 4 rfl (by decide) 1 (g % 18446744073709551616) (by omega) 4 (by decide) (headX g) 8 (by rw [show g % 18446744073709551616 = g by omega]; rfl) rfl) Tryz.call98 1 [4, 0, 0, 0, 0, 0, 0, 0, 8] [0, 0, 0, 0, 0, 0, 0, 0, 1] [8] ?_
 refine gg (k := ?_)
 refine cmks (sum_own (headX g) 8 (headX_len g).symm (by rw [headX_len]; decide) 6) Tryz.call204 1 [8] [0] [] ?_
 refine gg (k := ?_)
 refine cmks (Put_own (headX g) 8 (headX_len g).symm (by decide) 6 (crcE 0 (headX g) % 18446744073709551616) (by omega) 4 (by decide) (headB g) 12 (by rw [show crcE 0 (headX g) % 18446744073709551616 = crcE 0 (headX g) by omega]; rfl) rfl) Tryz.call98 1 [8, 0, 0, 0, 0, 0, 0, 0, 13] [0, 0, 0, 0, 0, 0, 0, 0, 1] [8] ?_
 refine gg (k := ?_)
 exact ⟨_, rfl, rfl, rfl, trivial⟩
def layX (k v : List UInt8) : List UInt8 := [165] ++ leB 2 k.length ++ leB 4 v.length
def layC (k v : List UInt8) : Int := crcE (crcE (crcE 0 (layX k v)) k) v
def layH (k v : List UInt8) : List UInt8 := layX k v ++ leB 4 (layC k v)
def layB (k v : List UInt8) : List UInt8 := [layH k v, k, v].flatten
theorem layX_len (k v : List UInt8) : (layX k v).length = 7 := by simp [layX, leB_len]
theorem layH_len (k v : List UInt8) : (layH k v).length = 11 := by simp [layH, layX_len, leB_len]
theorem layB_len (k v : List UInt8) : (layB k v).length = 11 + k.length + v.length := by simp [layB, layH_len]; omega
theorem layC_bound (k v : List UInt8) : 0 ≤ layC k v ∧ layC k v ≤ 4294967295 := crcE_bound _ (crcE_bound _ (crcE_bound _ (by decide)))
def catF (r v n z : Nat) (k : List UInt8) (z' : Nat) (w : List UInt8) : Nat → List AV
 | 0 => [.own r v 1 0 n]
 | 1 => [.bs z k]
 | _ => [.bs z' w]
theorem catF_on {P : Nat → Prop} {r v n z : Nat} {k : List UInt8} {z' : Nat} {w : List UInt8} (h : P r) : ∀ a, onAs P (catF r v n z k z' w a)
 | 0 => ⟨h, trivial⟩
 | 1 => ⟨trivial, trivial⟩
 | _ + 2 => ⟨trivial, trivial⟩
theorem concat3 (h k v : List UInt8) (n : Nat) (hn : n = h.length) (hl : [h, k, v].flatten.length ≤ 1000000000) (z z' v0 v1 : Nat) : Spec Tryz.prog 63 [.own 0 v0 1 0 3] [⟨v0, .row 1 (catF 1 v1 n z k z' v) 0 (List.range 3)⟩, ⟨v1, .bytes h⟩]
    (pms (.own 26 6 1 0 [h, k, v].flatten.length) [⟨v0, .row 1 (catF 1 v1 n z k z' v) 0 (List.range 3)⟩, ⟨v1, .bytes h⟩] [(26, ⟨6, .bytes [h, k, v].flatten⟩)]) := by
 subst hn
 refine spec_ro (concat_vc [h, k, v] (by show 3 ≤ 1000; decide) hl 0) trivial ⟨trivial, trivial⟩ (rows := [⟨v0, .row 1 (catF 1 v1 h.length z k z' v) 0 (List.range 3)⟩, ⟨v1, .bytes h⟩]) (args := [.own 0 v0 1 0 3]) (asL_cons (as_sl (l0 := List.range 3) rfl rfl rfl fun i x l hi hli => ?_) asL_nil)
 match i with
 | 0 =>
  cases hi; cases hli
  refine ⟨_, rfl, ?_⟩
  have := as_own (rows := [⟨v0, .row 1 (catF 1 v1 h.length z k z' v) 0 (List.range 3)⟩, ⟨v1, .bytes h⟩]) (r := 1) (ver := v1) (l := h) (off := 0) (n := h.length) rfl (by omega)
  rw [whole] at this
  exact this
 | 1 => cases hi; cases hli; exact ⟨_, rfl, as_bs⟩
 | 2 => cases hi; cases hli; exact ⟨_, rfl, as_bs⟩
 | i + 3 => simp at hli
theorem lay_vc (k v : List UInt8) (hk : k.length ≤ 100000000) (hv : v.length ≤ 100000000) (z z' : Nat) : Spec Tryz.prog 151 [.bs z k, .bs z' v] [] (pms (.own 30 7 1 0 (layB k v).length) [] [(30, ⟨7, .bytes (layB k v)⟩)]) := by
 have hc := layC_bound k v
 have hc1 := crcE_bound (layX k v) (x := 0) (by decide)
 have hc2 := crcE_bound k hc1
 refine spec_entry tbOk Tryz.func151 rfl Tryz.ntmps151 Tryz.results151 ?_
 refine gg (k := ?_)
 refine cmks (Put_own [165] 1 rfl (by decide) 1 ((k.length : Int) % 18446744073709551616) (by omega) 2 (by decide) ([165] ++ leB 2 k.length) 3 (by rw [show (k.length : Int) % 18446744073709551616 = k.length by omega]; rfl) rfl) Tryz.call98 1 [7, 0, 0, 0, 0, 0, 0, 0, 11] [0, 0, 0, 0, 0, 0, 0, 0, 1] [8] ?_
 refine gg (k := ?_)
 refine cmks (Put_own ([165] ++ leB 2 k.length) 3 (by simp [leB_len]) (by decide) 6 ((v.length : Int) % 18446744073709551616) (by omega) 4 (by decide) (layX k v) 7 (by rw [show (v.length : Int) % 18446744073709551616 = v.length by omega]; rfl) rfl) Tryz.call98 1 [11, 0, 0, 0, 0, 0, 0, 0, 16] [0, 0, 0, 0, 0, 0, 0, 0, 1] [8] ?_
 refine gg (k := ?_)
 refine cmks (sum_own (layX k v) 7 (layX_len k v).symm (by rw [layX_len]; decide) 6) Tryz.call204 1 [16] [0] [] ?_
 refine gg (k := ?_)
 refine cdet (extend_vc k (by omega) z (crcE 0 (layX k v)) hc1) Tryz.call209 [] ?_
 refine gg (k := ?_)
 refine cdet (extend_vc v (by omega) z' _ hc2) Tryz.call209 [] ?_
 refine gg (k := ?_)
 refine cmks (Put_own (layX k v) 7 (layX_len k v).symm (by decide) 6 (layC k v % 18446744073709551616) (by omega) 4 (by decide) (layH k v) 11 (by rw [show layC k v % 18446744073709551616 = layC k v by omega]; rfl) rfl) Tryz.call98 1 [16, 0, 0, 0, 0, 0, 0, 0, 26] [0, 0, 0, 0, 0, 0, 0, 0, 1] [8] ?_
 refine gg (k := ?_)
 refine cmksW (concat3 (layH k v) k v 11 (layH_len k v).symm (by show (layB k v).length ≤ _; rw [layB_len]; omega) z z' 1 6) Tryz.call63 (hr2 := ⟨catF_on rfl, trivial, trivial⟩) 2 [29, 26, 0, 0, 0, 0, 0, 0, 0, 0, 0, 0, 0, 0, 0, 0, 0, 0, 0, 0, 0, 0, 0, 0, 0, 0, 30] [0, 0, 0, 0, 0, 0, 0, 0, 0, 0, 0, 0, 0, 0, 0, 0, 0, 0, 0, 0, 0, 0, 0, 0, 0, 0, 1] [26] ?_ ?_
 ·refine ⟨⟨catF_on (by decide), _, rfl, WeakE.row 1 1 rfl⟩, ⟨trivial, _, rfl, WeakE.refl _⟩, trivial⟩
 refine gg (k := ?_)
 exact ⟨_, rfl, rfl, rfl, trivial⟩
end Go.Proofs.YtmjpbmcbcppkfaaGreatDoor
namespace Go.Proofs.YtmjpbmcbcppkfaaGreatDoor
open Go.RowKit
set_option linter.unusedVariables false
set_option linter.unusedSimpArgs false
set_option maxRecDepth 100000
set_option maxHeartbeats 1500000
theorem strOf_eq (a b : List UInt8) : decide ((strOf a).data.toList = (strOf b).data.toList) = decide (a = b) := by rw [Bool.eq_iff_iff, decide_eq_true_iff, decide_eq_true_iff]; simp [strOf]
theorem equal_vc (a b : List UInt8) (z z' : Nat) : Spec Tryz.prog 92 [.bs z a, .bs z' b] [] (pst (.val (.bool (decide (a = b)))) []) := by
 refine spec_entry tbOk Tryz.func92 rfl Tryz.ntmps92 Tryz.results92 ?_
 refine gg (k := ?_)
 refine ⟨_, congrArg AV.val (congrArg Value.bool ?_), rfl⟩
 exact strOf_eq a b
theorem equal_own (a : List UInt8) (z : Nat) (b : List UInt8) (n v : Nat) (hn : n = b.length) : Spec Tryz.prog 92 [.bs z a, .own 0 v 1 0 n] [⟨v, .bytes b⟩] (pms (.val (.bool (decide (a = b)))) [⟨v, .bytes b⟩] []) := by
 subst hn
 have := spec_ro (spec_pms (equal_vc a ((b.drop 0).take b.length) 0 0)) trivial trivial (rows := [⟨v, .bytes b⟩]) (args := [.bs z a, .own 0 v 1 0 b.length]) (asL_cons as_bs (asL_cons (as_own (l := b) rfl (by omega)) asL_nil))
 rw [whole] at this
 exact this
theorem lay_own (k v : List UInt8) (kn vn : Nat) (hkn : kn = k.length) (hvn : vn = v.length) (hk : k.length ≤ 100000000) (hv : v.length ≤ 100000000) (v0 v1 N : Nat) (hN : N = (layB k v).length) : Spec Tryz.prog 151 [.own 0 v0 1 0 kn, .own 1 v1 1 0 vn] [⟨v0, .bytes k⟩, ⟨v1, .bytes v⟩]
    (pms (.own 32 7 1 0 N) [⟨v0, .bytes k⟩, ⟨v1, .bytes v⟩] [(32, ⟨7, .bytes (layB k v)⟩)]) := by
 subst hkn hvn hN
 have := spec_ro (lay_vc ((k.drop 0).take k.length) ((v.drop 0).take v.length) (by rw [whole]; exact hk) (by rw [whole]; exact hv) 0 0) trivial ⟨trivial, trivial⟩ (rows := [⟨v0, .bytes k⟩, ⟨v1, .bytes v⟩]) (args := [.own 0 v0 1 0 k.length, .own 1 v1 1 0 v.length])
  (asL_cons (as_own (l := k) rfl (by omega)) (asL_cons (as_own (l := v) rfl (by omega)) asL_nil))
 rw [whole, whole] at this
 exact this
/-! a record, as its bytes tell it -/
def recK (x : List UInt8) : Nat := numB ((x.drop 2).take 2)
def recV (x : List UInt8) : Nat := numB ((x.drop 4).take 4)
def recN (x : List UInt8) : Nat := 12 + recK x + recV x
def recKey (x : List UInt8) : List UInt8 := (x.take (12 + recK x)).drop 12
def recVal (x : List UInt8) : List UInt8 := (x.take (recN x)).drop (12 + recK x)
def recIs (x : List UInt8) : Prop := 12 ≤ x.length ∧ (x.getD 0 0 = 252 ∨ x.getD 0 0 = 248) ∧ 1 ≤ recK x ∧ recK x ≤ 255 ∧ recV x ≤ 65536 ∧ recN x ≤ x.length ∧ (x.take (recN x)).drop 1 = layB (recKey x) (recVal x)
instance (x : List UInt8) : Decidable (recIs x) := by unfold recIs; infer_instance
theorem number_k (z : Nat) (x : List UInt8) (h : 12 ≤ x.length) (hx : x.length ≤ 140737488355328) : Spec Tryz.prog 148 [.bs z x, .val (.int .i64 2), .val (.int .i64 2)] [] (pst (.val (.int .i64 (recK x))) []) :=
 number_vc x hx z 2 2 (by unfold I64; omega) (.inl rfl) (by omega)
theorem number_v (z : Nat) (x : List UInt8) (h : 12 ≤ x.length) (hx : x.length ≤ 140737488355328) : Spec Tryz.prog 148 [.bs z x, .val (.int .i64 4), .val (.int .i64 4)] [] (pst (.val (.int .i64 (recV x))) []) :=
 number_vc x hx z 4 4 (by unfold I64; omega) (.inr rfl) (by omega)
theorem recK_le (x : List UInt8) : recK x ≤ 65535 := by
 have h1 := numB_lt ((x.drop 2).take 2)
 have h2 : ((x.drop 2).take 2).length ≤ 2 := by simp; omega
 have h3 : (256 : Nat) ^ ((x.drop 2).take 2).length ≤ 256 ^ 2 := Nat.pow_le_pow_right (by decide) h2
 unfold recK; omega
theorem recV_le (x : List UInt8) : recV x ≤ 4294967295 := by
 have h1 := numB_lt ((x.drop 4).take 4)
 have h2 : ((x.drop 4).take 4).length ≤ 4 := by simp; omega
 have h3 : (256 : Nat) ^ ((x.drop 4).take 4).length ≤ 256 ^ 4 := Nat.pow_le_pow_right (by decide) h2
 unfold recV; omega
def zeroRec : AV := .agg [.val (.slice none 0 0), .val (.slice none 0 0), .val (.bool false)]
def recLv (x : List UInt8) : Bool := decide (((x.getD 0 0).toNat : Int) = 252)
def recAV (x : List UInt8) : AV := .tup [.agg [.own 54 3 1 0 (recKey x).length, .own 60 3 1 0 (recVal x).length, .val (.bool (recLv x))], .val (.int .i64 (recN x))]
def recPost (x : List UInt8) (X : AV) (H : List Ent) : Prop := (¬ recIs x → pms (.tup [zeroRec, .val (.int .i64 0)]) [] [] X H) ∧ (recIs x → pms (recAV x) [] [(54, ⟨3, .bytes (recKey x)⟩), (60, ⟨3, .bytes (recVal x)⟩)] X H)
theorem parse_all (z : Nat) (x : List UInt8) (hx : x.length ≤ 140737488355328) : Spec Tryz.prog 216 [.bs z x] [] (recPost x) := by
 have hk := recK_le x
 have hv := recV_le x
 have hN : recN x = 12 + recK x + recV x := rfl
 refine spec_entry tbOk Tryz.func216 rfl Tryz.ntmps216 Tryz.results216 ?_
 refine gg (k := ?_)
 refine ⟨fun h => ?_, fun h => ?_⟩
 ·refine gg (k := ?_)
  refine ⟨fun _ => ⟨_, rfl, rfl, trivial⟩, fun hr => ?_⟩
  exfalso
  rw [Bool.or_eq_true] at h
  rcases h with h | h
  ·have := of_decide_eq_true h; have := hr.1; omega
  ·rw [Bool.and_eq_true, Bool.not_eq_true', Bool.not_eq_true', decide_eq_false_iff_not, decide_eq_false_iff_not] at h
   rcases hr.2.1 with q | q
   ·exact h.1 (by show ((x.getD 0 0).toNat : Int) = 252; rw [q]; rfl)
   ·exact h.2 (by show ((x.getD 0 0).toNat : Int) = 248; rw [q]; rfl)
 have h0 : x.getD (Int.toNat 0) 0 = x.getD 0 0 := rfl
 rw [h0] at h
 have h12 : 12 ≤ x.length := by
  simp only [Bool.or_eq_false_iff, decide_eq_false_iff_not] at h; omega
 have hst : x.getD 0 0 = 252 ∨ x.getD 0 0 = 248 := by
  rw [Bool.or_eq_false_iff] at h
  have h2 := h.2
  simp only [Bool.and_eq_false_iff, Bool.not_eq_false', decide_eq_true_eq] at h2
  exact h2.imp (fun q => UInt8.toNat_inj.1 (by exact_mod_cast q)) (fun q => UInt8.toNat_inj.1 (by exact_mod_cast q))
 refine gg (k := ?_)
 refine cdet (number_k z x h12 hx) Tryz.call148 [] ?_
 refine gg (k := ?_)
 refine cdet (number_v z x h12 hx) Tryz.call148 [] ?_
 refine gg (k := ?_)
 by_cases hb : recK x < 1 ∨ 255 < recK x ∨ 65536 < recV x
 ·have e1 : (decide ((recK x : Int) < 1) || decide (255 < (recK x : Int)) || decide (65536 < (recV x : Int))) = true := by
    simp only [Bool.or_eq_true, decide_eq_true_eq]; omega
  rw [e1]
  (refine sts (k := ?_))
  refine ⟨fun hG => absurd hG (by decide), fun _ => ?_⟩
  refine gg (k := ?_)
  exact ⟨fun _ => ⟨_, rfl, rfl, trivial⟩, fun hr => absurd hr (by unfold recIs; omega)⟩
 have e1 : (decide ((recK x : Int) < 1) || decide (255 < (recK x : Int)) || decide (65536 < (recV x : Int))) = false := by
  simp only [Bool.or_eq_false_iff, decide_eq_false_iff_not]; omega
 rw [e1]
 refine gcl (k := ?_)
 refine cdet (need_vc (recK x) (recV x) (by omega) (by omega)) Tryz.call112 [] ?_
 refine gg (k := ?_)
 refine ⟨fun h => ?_, fun h => ?_⟩
 ·refine gg (k := ?_)
  have h2 : x.length < 12 + recK x + recV x := by
   rw [Bool.false_or] at h
   have := of_decide_eq_true h; omega
  exact ⟨fun _ => ⟨_, rfl, rfl, trivial⟩, fun hr => absurd hr (by unfold recIs; omega)⟩
 have h2 : 12 + recK x + recV x ≤ x.length := by
  rw [Bool.false_or] at h
  have := of_decide_eq_false h; omega
 refine gg (k := ?_)
 refine cdet (need_vc (recK x) (recV x) (by omega) (by omega)) Tryz.call112 [] ?_
 refine gg (k := ?_)
 (refine sts (k := ?_))
 refine draw_of (p := 0) tbOk hm [0, 0, 2, 7, 15, 0, 0, 64, 0, 480, 1023, 0, 2048, 6144, 14336, 32767, 0, 131071] [⟨0, false, false, []⟩, ⟨1, false, false, []⟩, ⟨2, false, false, []⟩, ⟨3, false, false, []⟩, ⟨5, false, false, []⟩, ⟨6, false, false, []⟩, ⟨7, false, false, []⟩, ⟨8, false, false, []⟩, ⟨9, false, false, []⟩, ⟨11, false, false, []⟩, ⟨12, false, false, []⟩, ⟨13, false, false, []⟩, ⟨14, false, false, []⟩, ⟨16, false, false, [7]⟩, ⟨4, true, true, [55, 56, 57, 58, 59, 60, 61, 62, 63, 64, 65, 7]⟩, ⟨10, true, true, [61, 62, 63, 64, 65, 7]⟩, ⟨15, true, false, [7]⟩, ⟨17, true, true, []⟩] (by kernel_rfl) ?_
 refine gg (k := ?_)
 have hkey : List.drop (Int.toNat 12) (List.take ((12 : Int) + (recK x : Int)).toNat x) = recKey x := by
  unfold recKey; rw [show ((12 : Int) + (recK x : Int)).toNat = 12 + recK x by omega]; rfl
 have hval : List.drop ((12 : Int) + (recK x : Int)).toNat (List.take ((12 : Int) + (recK x : Int) + (recV x : Int)).toNat x) = recVal x := by
  unfold recVal; rw [hN, show ((12 : Int) + (recK x : Int)).toNat = 12 + recK x by omega, show ((12 : Int) + (recK x : Int) + (recV x : Int)).toNat = 12 + recK x + recV x by omega]
 have hkl : (recKey x).length = recK x := by unfold recKey; rw [List.length_drop, List.length_take]; omega
 have hvl : (recVal x).length = recV x := by unfold recVal; rw [hN, List.length_drop, List.length_take]; omega
 rw [hkey]
 refine cmks (clone0_vc (recKey x) (by omega) z) Tryz.call58 0 [0, 0, 0, 0, 0, 54] [0, 0, 0, 0, 0, 1] [5] ?_
 refine gg (k := ?_)
 rw [hval]
 refine cmks (clone0_vc (recVal x) (by omega) z) Tryz.call58 0 [0, 0, 0, 0, 0, 60] [0, 0, 0, 0, 0, 1] [5] ?_
 refine gg (k := ?_)
 (refine sts (k := ?_))
 refine draw_of (p := 0) tbOk hm [0, 0, 3, 0, 8, 0, 32, 120, 255, 511] [⟨0, false, false, []⟩, ⟨1, false, false, []⟩, ⟨2, false, false, []⟩, ⟨3, true, false, [66, 67, 68, 70, 71, 72, 73, 74, 75]⟩, ⟨4, true, false, [66, 67, 68, 71, 72, 73, 74, 75]⟩, ⟨5, true, false, [66, 67, 68, 69, 70, 72, 73, 74, 75]⟩, ⟨6, true, false, [66, 67, 68, 69, 70, 73, 74, 75]⟩, ⟨7, true, true, [66, 67, 68, 74, 75]⟩, ⟨8, true, true, [75]⟩, ⟨9, false, false, []⟩] (by kernel_rfl) ?_
 refine gg (k := ?_)
 refine cmks (lay_own (recKey x) (recVal x) (recKey x).length (recVal x).length rfl rfl (by omega) (by omega) 3 3 _ rfl) Tryz.call151 2 [54, 60, 0, 0, 0, 0, 0, 0, 0, 0, 0, 0, 0, 0, 0, 0, 0, 0, 0, 0, 0, 0, 0, 0, 0, 0, 0, 0, 0, 0, 0, 0, 73] [0, 0, 0, 0, 0, 0, 0, 0, 0, 0, 0, 0, 0, 0, 0, 0, 0, 0, 0, 0, 0, 0, 0, 0, 0, 0, 0, 0, 0, 0, 0, 0, 1] [32] ?_
 refine gg (k := ?_)
 refine cmks (equal_own _ z (layB (recKey x) (recVal x)) (layB (recKey x) (recVal x)).length 8 rfl) Tryz.call92 1 [73] [0] [] ?_
 refine gg (k := ?_)
 have hbody : List.drop (Int.toNat 1) (List.take ((12 : Int) + (recK x : Int) + (recV x : Int)).toNat x) = (x.take (recN x)).drop 1 := by
  rw [hN, show ((12 : Int) + (recK x : Int) + (recV x : Int)).toNat = 12 + recK x + recV x by omega]; rfl
 rw [hbody]
 refine ⟨fun h => ?_, fun h => ?_⟩
 ·refine gg (k := ?_)
  have hne : ¬ (x.take (recN x)).drop 1 = layB (recKey x) (recVal x) := by simpa using h
  exact ⟨fun _ => ⟨_, rfl, rfl, trivial⟩, fun hr => absurd hr.2.2.2.2.2.2 hne⟩
 ·refine gg (k := ?_)
  have he : (x.take (recN x)).drop 1 = layB (recKey x) (recVal x) := by simpa using h
  have hr : recIs x := ⟨h12, hst, by omega, by omega, by omega, by omega, he⟩
  refine ⟨fun q => absurd hr q, fun _ => ⟨_, ?_, rfl, rfl, rfl, trivial⟩⟩
  unfold recAV recLv
  rw [hN]
  rfl
theorem parse_none (z : Nat) (x : List UInt8) (hx : x.length ≤ 140737488355328) (h : ¬ recIs x) : Spec Tryz.prog 216 [.bs z x] [] (pms (.tup [zeroRec, .val (.int .i64 0)]) [] []) :=
 spec_mono (parse_all z x hx) fun _ _ q => q.1 h
theorem parse_some (z : Nat) (x : List UInt8) (hx : x.length ≤ 140737488355328) (h : recIs x) : Spec Tryz.prog 216 [.bs z x] [] (pms (recAV x) [] [(54, ⟨3, .bytes (recKey x)⟩), (60, ⟨3, .bytes (recVal x)⟩)]) :=
 spec_mono (parse_all z x hx) fun _ _ q => q.2 h
end Go.Proofs.YtmjpbmcbcppkfaaGreatDoor
