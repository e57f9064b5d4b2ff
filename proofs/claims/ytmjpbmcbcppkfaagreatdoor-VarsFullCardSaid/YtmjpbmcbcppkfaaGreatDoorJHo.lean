/- Walks of nvram: the records that are the store: slices.DeleteFunc. Walks of nvram: slices.Clone of records, used. Walks of nvram: now. Conditions: the premises of each law. -/
import Derived.Test.YtmjpbmcbcppkfaaGreatDoorJHn
namespace Go.Proofs.YtmjpbmcbcppkfaaGreatDoor
open Go.RowKit
set_option linter.unusedVariables false
set_option linter.unusedSimpArgs false
set_option maxRecDepth 100000
set_option maxHeartbeats 1500000
theorem WeakE.rowT (v sz : Nat) {α β : Type} {f : α → List AV} {d : α} {l : List α} {f' : β → List AV} {d' : β} {l' : List β} (h : l'.map f' = (l.map f).take l'.length) : WeakE ⟨v, .row sz f d l⟩ ⟨v, .row sz f' d' l'⟩ := by
 have hl : l'.length ≤ l.length := by have := congrArg List.length h; simp only [List.length_map, List.length_take] at this; omega
 refine ⟨rfl, fun _ => rfl, fun q => ?_, fun _ E w b h0 => ⟨fun _ => ?_, fun _ _ _ q => by cases q⟩, fun _ q => by cases q⟩
 ·simp only [Bd.count] at q ⊢; omega
 ·obtain ⟨cur, T, lo, hi, h1, h2, h3, h4⟩ := h0.blk rfl
  refine ⟨cur, T, lo, hi, h1, h2, ?_, fun i ys hy => ?_⟩
  ·simp only [Bd.count, Bd.sz] at h3 ⊢
   exact Nat.le_trans (Nat.mul_le_mul_right _ hl) h3
  ·refine h4 i ys ?_
   simp only [Bd.at] at hy ⊢
   rw [← List.getElem?_map, h, List.getElem?_take] at hy
   rw [← List.getElem?_map]
   split at hy
   ·exact hy
   ·cases hy
def keptR (l : List Rc) (n : Nat) : List Rr := (keptI (l.map rkOf) n).map fun j => (rrOf 0 l).getD j ⟨0, 0, 0, false⟩
def stR (l : List Rc) (j : Nat) : List Rr := keptR l j ++ (rrOf 0 l).drop (keptI (l.map rkOf) j).length
theorem keptR_len (l : List Rc) (n : Nat) : (keptR l n).length = (keptI (l.map rkOf) n).length := by simp [keptR]
theorem stR_len (l : List Rc) (j : Nat) (hj : j ≤ l.length) : (stR l j).length = l.length := by
 have := keptI_len (l.map rkOf) j
 unfold stR
 rw [List.length_append, keptR_len, List.length_drop, rrOf_len]; omega
theorem stR_get (l : List Rc) (j : Nat) (hj : j < l.length) : (stR l j).getD j ⟨0, 0, 0, false⟩ = (rrOf 0 l).getD j ⟨0, 0, 0, false⟩ := by
 have := keptI_len (l.map rkOf) j
 unfold stR
 rw [List.getD_eq_getElem?_getD, List.getElem?_append_right (by rw [keptR_len]; omega), List.getElem?_drop, keptR_len, Nat.add_sub_cancel' this, ← List.getD_eq_getElem?_getD]
theorem keptR_succ (l : List Rc) (j : Nat) : keptR l (j + 1) = keptR l j ++ if keepB (l.map rkOf) j then [(rrOf 0 l).getD j ⟨0, 0, 0, false⟩] else [] := by
 unfold keptR
 rw [keptI_succ, List.map_append]
 congr 1
 split <;> rfl
theorem stR_no (l : List Rc) (j : Nat) (h : keepB (l.map rkOf) j = false) : stR l (j + 1) = stR l j ∧ (keptI (l.map rkOf) (j + 1)).length = (keptI (l.map rkOf) j).length := by
 have h1 : keptI (l.map rkOf) (j + 1) = keptI (l.map rkOf) j := by rw [keptI_succ, h]; simp
 have h2 : keptR l (j + 1) = keptR l j := by rw [keptR_succ, h]; simp
 exact ⟨by unfold stR; rw [h1, h2], by rw [h1]⟩
theorem stR_yes (l : List Rc) (j : Nat) (hj : j < l.length) (h : keepB (l.map rkOf) j = true) : (stR l j).set (keptI (l.map rkOf) j).length ((rrOf 0 l).getD j ⟨0, 0, 0, false⟩) = stR l (j + 1) ∧ (keptI (l.map rkOf) (j + 1)).length = (keptI (l.map rkOf) j).length + 1 := by
 have h0 := keptI_len (l.map rkOf) j
 have h1 : (keptI (l.map rkOf) (j + 1)).length = (keptI (l.map rkOf) j).length + 1 := by rw [keptI_succ, h]; simp
 refine ⟨?_, h1⟩
 unfold stR
 rw [h1, keptR_succ, h, if_pos rfl, List.set_append_right _ _ (by rw [keptR_len]; exact Nat.le_refl _), keptR_len, Nat.sub_self, List.append_assoc]
 congr 1
 rw [List.drop_eq_getElem_cons (by rw [rrOf_len]; omega), List.set_cons_zero]
 rfl
theorem first_ex (p : Nat → Bool) : ∀ n : Nat, ∃ i, i ≤ n ∧ (∀ j, j < i → p j = true) ∧ (i < n → p i = false)
 | 0 => ⟨0, Nat.le_refl _, fun j h => absurd h (Nat.not_lt_zero j), fun h => absurd h (Nat.lt_irrefl 0)⟩
 | n + 1 => by
  obtain ⟨i, h1, h2, h3⟩ := first_ex p n
  by_cases h : i < n
  ·exact ⟨i, by omega, h2, fun _ => h3 h⟩
  ·obtain rfl : i = n := by omega
   cases hp : p i with
   | true => exact ⟨i + 1, Nat.le_refl _, fun j hj => by rcases Nat.lt_or_eq_of_le (Nat.le_of_lt_succ hj) with q | q; exact h2 j q; rw [q]; exact hp, fun q => absurd q (Nat.lt_irrefl _)⟩
   | false => exact ⟨i, Nat.le_succ _, h2, fun _ => hp⟩
theorem kept_all (l : List RK) : ∀ n : Nat, (∀ j, j < n → keepB l j = true) → keptI l n = List.range n := by
 intro n h
 unfold keptI
 rw [List.filter_eq_self]
 intro j hj
 exact h j (List.mem_range.1 hj)
theorem stR_all (l : List Rc) (j : Nat) (hj : j ≤ l.length) (h : ∀ i, i < j → keepB (l.map rkOf) i = true) : stR l j = rrOf 0 l ∧ (keptI (l.map rkOf) j).length = j := by
 have h1 := kept_all _ j h
 have h2 : keptR l j = (rrOf 0 l).take j := by
  unfold keptR
  rw [h1]
  apply List.ext_getElem?
  intro q
  rw [List.getElem?_map, List.getElem?_take]
  by_cases hq : q < j
  ·have hl : q < (rrOf 0 l).length := by rw [rrOf_len]; omega
   rw [List.getElem?_range hq, if_pos hq, Option.map_some, List.getD_eq_getElem?_getD, List.getElem?_eq_getElem hl]; rfl
  ·rw [if_neg hq, List.getElem?_eq_none (by simp; omega)]; rfl
 refine ⟨?_, by rw [h1, List.length_range]⟩
 unfold stR
 rw [h1, h2, List.length_range, List.take_append_drop]
theorem optF_head {α : Type} (f : α → List AV) (z : List Value) (A : List α) (R : List (Option α)) : A.map f = ((A.map some ++ R).map (optF f z)).take A.length := by
 rw [List.map_append, List.map_map, List.take_left' (by simp)]; rfl
theorem stR_take (l : List Rc) (j : Nat) : (stR l j).take (keptI (l.map rkOf) j).length = keptR l j := by
 unfold stR
 exact List.take_left' (keptR_len l j)
theorem del_vc (s : FlS) (a c : Nat) (l : List Rc) (hb : (∀ r ∈ l.map rkOf, r.key.length ≤ 140737488355328 ∧ r.val.length ≤ 140737488355328) ∧ (l.map rkOf).length ≤ 140737488355328) (e : Int) (b : Bool) (vt vx vr vw vb v0 v1 vs : Nat) :
   Spec Tryz.prog 89 [.own 7 vs 3 0 l.length, .clo 91 [.ref 0 vt 1 0 0, .ref 1 vx 5 0 0]] [⟨vt, .obj [.val (.int .i64 0)]⟩, ⟨vx, .obj [.ref 4 vb 3 0 0, .own 2 vr 3 0 l.length, .val (.slice none 0 0), .val (.int .i64 e), .val (.bool b)]⟩, ⟨vr, .row 3 (rrA 3 vw) ⟨0, 0, 0, false⟩ (rrOf 0 l)⟩, ⟨vw, .pool (poolOf l)⟩, ⟨vb, .obj [.ref 5 v0 6 0 0, .val (.int .i64 (a : Int)), .val (.int .i64 (c : Int))]⟩, ⟨v0, .obj [.own 6 v1 1 0 s.l.length, .val (.int .i64 (s.k : Int)), .val (.int .i64 s.ar), .val (.int .i64 s.pt), .val (.bool s.dd), .val (.int .i64 s.wr)]⟩, ⟨v1, .bytes s.l⟩, ⟨vs, .row 3 (rrA 3 vw) ⟨0, 0, 0, false⟩ (rrOf 0 l)⟩]
   (pms (.own 7 vs 3 0 (keptR l l.length).length) [⟨vt, .obj [.val (.int .i64 (l.length : Int))]⟩, ⟨vx, .obj [.ref 4 vb 3 0 0, .own 2 vr 3 0 l.length, .val (.slice none 0 0), .val (.int .i64 e), .val (.bool b)]⟩, ⟨vr, .row 3 (rrA 3 vw) ⟨0, 0, 0, false⟩ (rrOf 0 l)⟩, ⟨vw, .pool (poolOf l)⟩, ⟨vb, .obj [.ref 5 v0 6 0 0, .val (.int .i64 (a : Int)), .val (.int .i64 (c : Int))]⟩, ⟨v0, .obj [.own 6 v1 1 0 s.l.length, .val (.int .i64 (s.k : Int)), .val (.int .i64 s.ar), .val (.int .i64 s.pt), .val (.bool s.dd), .val (.int .i64 s.wr)]⟩, ⟨v1, .bytes s.l⟩, ⟨vs, .row 3 (rrA 3 vw) ⟨0, 0, 0, false⟩ (keptR l l.length)⟩] []) := by
 have hlb : l.length ≤ 140737488355328 := by have := hb.2; rw [List.length_map] at this; exact this
 obtain ⟨i, i1, i2, i3⟩ := first_ex (keepB (l.map rkOf)) l.length
 have hidx := idx_vc s a c l hb i i1 i2 i3 e b vt vx vr vw vb v0 v1 vs
 refine spec_entryW tbOk Tryz.func89 rfl Tryz.ntmps89 Tryz.results89 ?_
 refine gg (k := ?_)
 refine cmks (hidx) Tryz.call123 (hrows := ⟨⟨⟨trivial, trivial⟩, rfl⟩, ⟨⟨(by show 4 < 8; decide), (by show 2 < 8; decide), trivial, trivial, trivial, trivial⟩, rfl⟩, ⟨fun _ => ⟨(by show 3 < 8; decide), (by show 3 < 8; decide), trivial, trivial⟩, rfl⟩, ⟨trivial, rfl⟩, ⟨⟨(by show 5 < 8; decide), trivial, trivial, trivial⟩, rfl⟩, ⟨⟨(by show 6 < 8; decide), trivial, trivial, trivial, trivial, trivial, trivial⟩, rfl⟩, ⟨trivial, rfl⟩, ⟨fun _ => ⟨(by show 3 < 8; decide), (by show 3 < 8; decide), trivial, trivial⟩, rfl⟩, trivial⟩) (hr2 := ⟨⟨trivial, trivial⟩, ⟨rfl, rfl, trivial, trivial, trivial, trivial⟩, fun _ => ⟨rfl, rfl, trivial, trivial⟩, trivial, ⟨rfl, trivial, trivial, trivial⟩, ⟨rfl, trivial, trivial, trivial, trivial, trivial, trivial⟩, trivial, fun _ => ⟨rfl, rfl, trivial, trivial⟩, trivial⟩) 8 [0, 1, 2, 3, 4, 5, 6, 7] [0, 0, 0, 0, 0, 0, 0, 0] [] ?_
 by_cases hin : i < l.length
 ·rw [if_pos hin, if_pos hin]
  obtain ⟨q1, q2⟩ := stR_all l i i1 i2
  obtain ⟨q3, q4⟩ := stR_no l i (i3 hin)
  refine gg (k := ?_)
  (refine sts (k := ?_))
  conv => whnf
  refine loop_at (fun j : Nat => i + 1 ≤ j ∧ j ≤ l.length ∧ (keptI (l.map rkOf) j).length < j) (fun j => l.length - j) 8 [5, 6, 7, 16, 17, 18, 19, 20, 21, 22, 23, 24, 25, 26, 27, 28, 29, 30, 31, 32, 33, 34, 35] (fun j => [(5, .val (.int .i64 ((keptI (l.map rkOf) j).length : Int))), (6, .val (.int .i64 (j : Int)))]) (fun j => [(0, ⟨vt, .obj [.val (.int .i64 (j : Int))]⟩), (7, ⟨vs, .row 3 (rrA 3 vw) ⟨0, 0, 0, false⟩ (stR l j)⟩)]) (i + 1) ⟨Nat.le_refl _, hin, by rw [q4, q2]; exact Nat.lt_succ_self _⟩ ?_ ?_ ?_
  ·dsimp only [lpS, anyT, putT, setL]
   rw [q4, q2]
   exact no_implicit_lambda% ten
  ·dsimp only [lpS, deadH, putH, setL, Nat.reduceAdd, Nat.zero_add]
   rw [q3, q1]
   exact no_implicit_lambda% hen
  ·rintro j v ⟨j1, j2, j3⟩
   have hsl := stR_len l j j2
   refine glp (k := ?_)
   refine gg (k := ?_)
   refine ⟨fun h => ?_, fun h => ?_⟩
   ·have hlt : j < l.length := by have := of_decide_eq_true h; omega
    have hsg := stR_get l j hlt
    refine gg (k := ?_)
    (try simp only [Int.toNat_natCast, Nat.zero_add])
    refine gg (k := ?_)
    try ((conv => whnf); (refine And.intro ⟨rfl, ⟨rfl, by rw [hsl]; exact hlt⟩, Nat.le_of_ble_eq_true rfl⟩ ?_))
    rw [hsg]
    refine gg (k := ?_)
    refine cmks (pred_vc s a c l hb j hlt e b vt vx vr vw vb v0 v1) Tryz.call91 (hrows := ⟨⟨⟨trivial, trivial⟩, rfl⟩, ⟨⟨(by show 4 < 7; decide), (by show 2 < 7; decide), trivial, trivial, trivial, trivial⟩, rfl⟩, ⟨fun _ => ⟨(by show 3 < 7; decide), (by show 3 < 7; decide), trivial, trivial⟩, rfl⟩, ⟨trivial, rfl⟩, ⟨⟨(by show 5 < 7; decide), trivial, trivial, trivial⟩, rfl⟩, ⟨⟨(by show 6 < 7; decide), trivial, trivial, trivial, trivial, trivial, trivial⟩, rfl⟩, ⟨trivial, rfl⟩, trivial⟩) (hr2 := ⟨⟨trivial, trivial⟩, ⟨rfl, rfl, trivial, trivial, trivial, trivial⟩, fun _ => ⟨rfl, rfl, trivial, trivial⟩, trivial, ⟨rfl, trivial, trivial, trivial⟩, ⟨rfl, trivial, trivial, trivial, trivial, trivial, trivial⟩, trivial, trivial⟩) (hon := ⟨⟨(by show 3 < 7; decide), (by show 3 < 7; decide), trivial, trivial⟩, (by show 0 < 7; decide), (by show 1 < 7; decide), trivial⟩) 7 [0, 1, 2, 3, 4, 5, 6] [0, 0, 0, 0, 0, 0, 0] [] ?_
    cases hkb : keepB (l.map rkOf) j with
    | false =>
     obtain ⟨w1, w2⟩ := stR_no l j hkb
     refine gg (k := ?_)
     refine back_at (j + 1) ⟨by omega, hlt, by rw [w2]; omega⟩ (by show l.length - (j + 1) < l.length - j; omega) ?_ ?_
     ·dsimp only [lpS, anyT, putT, setL]
      rw [w2]
      exact no_implicit_lambda% ten
     ·dsimp only [lpS, deadH, putH, setL, Nat.reduceAdd, Nat.zero_add]
      rw [w1]
      exact no_implicit_lambda% hen
    | true =>
     obtain ⟨w1, w2⟩ := stR_yes l j hlt hkb
     refine gg (k := ?_)
     (try simp only [Int.toNat_natCast, Nat.zero_add])
     refine ⟨(rrOf 0 l).getD j ⟨0, 0, 0, false⟩, ?_⟩
     try ((conv => whnf); (refine And.intro ⟨rfl, rfl, by rw [hsl]; omega, ⟨rfl, rfl, rfl, trivial⟩, rfl, by decide, rfl⟩ ?_))
     rw [w1]
     refine gg (k := ?_)
     refine back_at (j + 1) ⟨by omega, hlt, by rw [w2]; omega⟩ (by show l.length - (j + 1) < l.length - j; omega) ?_ ?_
     ·dsimp only [lpS, anyT, putT, setL]
      rw [w2]
      exact no_implicit_lambda% ten
     ·exact no_implicit_lambda% hen
   ·obtain rfl : j = l.length := by have := of_decide_eq_false h; omega
    refine gg (k := ?_)
    (try simp only [Int.toNat_natCast, Nat.zero_add])
    try ((conv => whnf); (refine And.intro ⟨rfl, rfl, by omega, by rw [hsl]; omega, rfl, rfl⟩ ?_))
    refine gg (k := ?_)
    (try simp only [Int.toNat_natCast, Nat.zero_add])
    (refine sts (k := ?_))
    refine ⟨_, leS_row 7 ⟨vs, .row 3 (rrA 3 vw) ⟨0, 0, 0, false⟩ (keptR l l.length)⟩ rfl (WeakE.rowT vs 3 (by rw [stR_take]; exact optF_head ..)), ?_⟩
    refine gg (k := ?_)
    rw [keptR_len]
    exact ⟨_, rfl, rfl, trivial⟩
 ·obtain rfl : i = l.length := by omega
  obtain ⟨q1, q2⟩ := stR_all l l.length i1 i2
  have e1 : keptR l l.length = rrOf 0 l := by
   unfold stR at q1
   rw [q2, List.drop_of_length_le (by rw [rrOf_len]; exact Nat.le_refl _), List.append_nil] at q1
   exact q1
  have e2 : (rrOf 0 l).length = l.length := rrOf_len l 0
  rw [if_neg hin, if_neg hin, e1, e2]
  refine gg (k := ?_)
  (refine sts (k := ?_))
  refine ⟨_, leS_refl _, ?_⟩
  refine gg (k := ?_)
  exact ⟨_, rfl, rfl, trivial⟩
end Go.Proofs.YtmjpbmcbcppkfaaGreatDoor
namespace Go.Proofs.YtmjpbmcbcppkfaaGreatDoor
open Go.RowKit
set_option linter.unusedVariables false
set_option linter.unusedSimpArgs false
set_option maxRecDepth 100000
set_option maxHeartbeats 1500000
theorem cloneR_vc (rs : List Rr) (ps : List (List UInt8)) (n va wa : Nat) (hn : n = rs.length) (hl : rs.length ≤ 4194304) : Spec Tryz.prog 90 [.own 0 va 3 0 n] [⟨va, .row 3 (rrA 1 wa) ⟨0, 0, 0, false⟩ rs⟩, ⟨wa, .pool ps⟩]
   (pms (.own 7 2 3 0 n) [⟨va, .row 3 (rrA 1 wa) ⟨0, 0, 0, false⟩ rs⟩, ⟨wa, .pool ps⟩] [(7, ⟨2, .row 3 (rrA 1 wa) ⟨0, 0, 0, false⟩ rs⟩)]) := by
 subst hn
 refine spec_entryW tbOk Tryz.func90 rfl Tryz.ntmps90 Tryz.results90 ?_
 refine gg (k := ?_)
 conv => whnf
 intro b hb
 cases b with
 | true =>
  have h0 := hb rfl
  have hl0 : rs = [] := List.eq_nil_of_length_eq_zero h0
  subst hl0
  refine gg (k := ?_)
  (refine sts (k := ?_))
  refine ⟨_, leS_nil 7 2 (.row 3 (rrA 1 wa) ⟨0, 0, 0, false⟩ []) rfl (by decide) rfl (t' := [.any, .any, .own 7 2 3 0 0, .any, .any, .any, .any, .any]) ?_, ?_⟩
  ·simp [leTn, setD, setL, updH, evA, unA, getA, getL, constA, undefs, deads]
  refine gg (k := ?_)
  exact ⟨_, rfl, rfl, by simp [allM, getL]⟩
 | false =>
  refine gg (k := ?_)
  conv => whnf
  refine ⟨Rr, rrA 1 wa, ⟨0, 0, 0, false⟩, rs, ?_⟩
  conv => whnf
  refine And.intro ⟨rfl, ⟨rfl, rfl, by omega, fun _ _ => ⟨rfl, rfl, rfl, trivial⟩⟩, rfl, rfl, rfl, rfl, .inr rfl, by (show List.map _ (List.take rs.length (List.drop 0 rs)) = _; rw [List.drop_zero, List.take_length]), by (show rs.length * 56 ≤ _; omega), by decide⟩ ?_
  refine gg (k := ?_)
  refine ⟨_, leS_refl _, ?_⟩
  refine gg (k := ?_)
  exact ⟨_, rfl, rfl, rfl, trivial⟩
theorem usedK_take (l : List RK) (j : Nat) (h : j < l.length) : usedK (l.take (j + 1)) = usedK (l.take j) + (12 + (l.getD j rk0).key.length + (l.getD j rk0).val.length) := by
 have key : ∀ (a : List RK) (r : RK), usedK (a ++ [r]) = usedK a + (12 + r.key.length + r.val.length) := by
  intro a r
  induction a with
  | nil => simp [usedK]
  | cons x a ih => simp only [List.cons_append, usedK, ih]; omega
 rw [List.take_succ_eq_append_getElem h, key, List.getD_eq_getElem?_getD, List.getElem?_eq_getElem h]; rfl
theorem usedK_append (a b : List RK) : usedK (a ++ b) = usedK a + usedK b := by
 induction a with
 | nil => simp [usedK]
 | cons x a ih => simp only [List.cons_append, usedK, ih]; omega
theorem usedK_le (l : List RK) (j : Nat) : usedK (l.take j) ≤ usedK l := by
 have := usedK_append (l.take j) (l.drop j)
 rw [List.take_append_drop] at this; omega
theorem used_vc {rs : List Rr} {ps : List (List UInt8)} {la : List RK} (h : RRel rs ps la) (hb : usedK la ≤ 4611686018427387000) (hl : la.length ≤ 140737488355328) (s : FlS) (a c : Nat) (l : List Rc) (e : Int) (b : Bool) (n va wa vr vb v0 v1 : Nat) (hn : n = rs.length) : Spec Tryz.prog 72 [.agg [.ref 3 vb 3 0 0, .own 2 vr 3 0 l.length, .own 0 va 3 0 n, .val (.int .i64 e), .val (.bool b)]] [⟨va, .row 3 (rrA 1 wa) ⟨0, 0, 0, false⟩ rs⟩, ⟨wa, .pool ps⟩, ⟨vr, .row 3 (rrA 1 wa) ⟨0, 0, 0, false⟩ (rrOf 0 l)⟩, ⟨vb, .obj [.ref 4 v0 6 0 0, .val (.int .i64 (a : Int)), .val (.int .i64 (c : Int))]⟩, ⟨v0, .obj [.own 5 v1 1 0 s.l.length, .val (.int .i64 (s.k : Int)), .val (.int .i64 s.ar), .val (.int .i64 s.pt), .val (.bool s.dd), .val (.int .i64 s.wr)]⟩, ⟨v1, .bytes s.l⟩]
   (pms (.val (.int .i64 (usedK la : Int))) [⟨va, .row 3 (rrA 1 wa) ⟨0, 0, 0, false⟩ rs⟩, ⟨wa, .pool ps⟩, ⟨vr, .row 3 (rrA 1 wa) ⟨0, 0, 0, false⟩ (rrOf 0 l)⟩, ⟨vb, .obj [.ref 4 v0 6 0 0, .val (.int .i64 (a : Int)), .val (.int .i64 (c : Int))]⟩, ⟨v0, .obj [.own 5 v1 1 0 s.l.length, .val (.int .i64 (s.k : Int)), .val (.int .i64 s.ar), .val (.int .i64 s.pt), .val (.bool s.dd), .val (.int .i64 s.wr)]⟩, ⟨v1, .bytes s.l⟩] []) := by
 subst hn
 have hlen := h.len
 refine spec_entry tbOk Tryz.func72 rfl Tryz.ntmps72 Tryz.results72 ?_
 refine gg (k := ?_)
 (refine sts (k := ?_))
 conv => whnf
 refine loop_at (fun j : Nat => j ≤ la.length) (fun j => la.length - j) 6 [3, 5, 9, 10, 11, 12, 13, 14, 15, 16, 17, 18, 19, 20, 21, 22] (fun j => [(3, .val (.int .i64 (usedK (la.take j) : Int))), (9, .val (.int .i64 (j : Int)))]) (fun j => []) 0 (Nat.zero_le _) ?_ ?_ ?_
 ·exact no_implicit_lambda% ten
 ·exact no_implicit_lambda% hen
 ·rintro j v hj
  refine glp (k := ?_)
  refine gg (k := ?_)
  refine ⟨fun h' => ?_, fun h' => ?_⟩
  ·have hlt : j < la.length := by have := of_decide_eq_true h'; omega
   have hu := usedK_take la j hlt
   have hu2 := usedK_le la (j + 1)
   have hjr : j < rs.length := by omega
   obtain ⟨y1, y2, y3, y4, y5⟩ := h.el j _ _ (List.getElem?_eq_getElem hjr) (List.getElem?_eq_getElem hlt)
   have hg : rs.getD j ⟨0, 0, 0, false⟩ = rs[j] := by rw [List.getD_eq_getElem?_getD, List.getElem?_eq_getElem hjr]; rfl
   have hgl : la.getD j rk0 = la[j] := by rw [List.getD_eq_getElem?_getD, List.getElem?_eq_getElem hlt]; rfl
   rw [hgl, ← y2, ← y4] at hu
   generalize rs[j] = x at hg hu
   refine gg (k := ?_)
   simp only [Int.toNat_natCast, Nat.zero_add]
   try ((conv => whnf); (refine And.intro ⟨rfl, ⟨rfl, hjr⟩, Nat.le_of_ble_eq_true rfl⟩ ?_))
   rw [hg]
   refine gg (k := ?_)
   refine cdet (need_vc (x.kn : Int) (x.vn : Int) (by omega) (by omega)) Tryz.call112 [] ?_
   refine gg (k := ?_)
   rw [show (usedK (la.take j) : Int) + (12 + (x.kn : Int) + (x.vn : Int)) = (usedK (la.take (j + 1)) : Int) by omega]
   refine back_at (j + 1) hlt (by show la.length - (j + 1) < la.length - j; omega) ?_ ?_
   ·exact no_implicit_lambda% ten
   ·exact no_implicit_lambda% hen
  ·obtain rfl : j = la.length := by have := of_decide_eq_false h'; omega
   rw [List.take_length]
   refine gg (k := ?_)
   exact ⟨_, rfl, rfl, trivial⟩
end Go.Proofs.YtmjpbmcbcppkfaaGreatDoor
namespace Go.Proofs.YtmjpbmcbcppkfaaGreatDoor
open Go.RowKit
set_option linter.unusedVariables false
set_option linter.unusedSimpArgs false
set_option maxRecDepth 100000
set_option maxHeartbeats 1500000
theorem now0 {W : Int} {n k : Nat} (s : FlS) (c : Nat) (g : Goes W n k s) (pa : Lies n k 0 c) (pb : Lies n k c c) (hd : s.dd = false) (hi : (s.cnt c).1 = 0) (l : List Rc) (e : Nat) (b : Bool) (hS : s.scan 0 c = (l, e, b)) (vs va vb v0 v1 : Nat) : Spec Tryz.prog 54 [.ref 0 vs 3 0 0] [⟨vs, .obj [.ref 3 v0 6 0 0, .ref 1 va 3 0 0, .ref 2 vb 3 0 0]⟩, ⟨va, .obj [.ref 3 v0 6 0 0, .val (.int .i64 ((0 : Nat) : Int)), .val (.int .i64 (c : Int))]⟩, ⟨vb, .obj [.ref 3 v0 6 0 0, .val (.int .i64 (c : Int)), .val (.int .i64 (c : Int))]⟩, ⟨v0, .obj [.own 4 v1 1 0 s.l.length, .val (.int .i64 (s.k : Int)), .val (.int .i64 s.ar), .val (.int .i64 s.pt), .val (.bool s.dd), .val (.int .i64 s.wr)]⟩, ⟨v1, .bytes s.l⟩]
   (pms (.tup [.agg [.ref 1 va 3 0 0, .own 30 (l.length + 3) 3 0 l.length, .own 32 3 3 0 (keptR l l.length).length, .val (.int .i64 (e : Int)), .val (.bool b)], .val (.int .i64 0)]) [⟨vs, .obj [.ref 3 v0 6 0 0, .ref 1 va 3 0 0, .ref 2 vb 3 0 0]⟩, ⟨va, .obj [.ref 3 v0 6 0 0, .val (.int .i64 ((0 : Nat) : Int)), .val (.int .i64 (c : Int))]⟩, ⟨vb, .obj [.ref 3 v0 6 0 0, .val (.int .i64 (c : Int)), .val (.int .i64 (c : Int))]⟩, ⟨v0, .obj [.own 4 v1 1 0 s.l.length, .val (.int .i64 (s.k : Int)), .val (.int .i64 s.ar), .val (.int .i64 s.pt), .val (.bool s.dd), .val (.int .i64 s.wr)]⟩, ⟨v1, .bytes s.l⟩]
    [(30, ⟨l.length + 3, .row 3 (rrA 31 3) ⟨0, 0, 0, false⟩ (rrOf 0 l)⟩), (31, ⟨3, .pool (poolOf l)⟩), (32, ⟨3, .row 3 (rrA 31 3) ⟨0, 0, 0, false⟩ (keptR l l.length)⟩)]) := by
 have hcv := counts_vc s c g pa pb vs va vb v0 v1
 rw [hi] at hcv
 have hsc := Scan_live s 0 c g pa hd l.length (by rw [hS]) va v0 v1
 rw [hS] at hsc
 have hbd := look_bound g pa hS
 have hfw := look_few g pa hS
 refine spec_entry tbOk Tryz.func54 rfl Tryz.ntmps54 Tryz.results54 ?_
 refine gg (k := ?_)
 refine cdet (spec_dead_b s false hd v0 v1) Tryz.call76 [3, 4] ?_
 refine gg (k := ?_)
 refine cmks (hcv) Tryz.call78 5 [0, 1, 2, 3, 4] [0, 0, 0, 0, 0] [] ?_
 refine gg (k := ?_)
 refine cmks (hsc) Tryz.call88 (he := ⟨fun _ => ⟨rfl, rfl, trivial, trivial⟩, trivial, trivial⟩) 3 [1, 3, 4, 0, 0, 0, 0, 0, 0, 0, 0, 0, 0, 30, 31] [0, 0, 0, 0, 0, 0, 0, 0, 0, 0, 0, 0, 0, 1, 1] [13, 14] ?_
 refine gg (k := ?_)
 refine cmks (cloneR_vc (rrOf 0 l) (poolOf l) l.length (l.length + 2 + 1) 3 (rrOf_len l 0).symm (by rw [rrOf_len]; exact hfw)) Tryz.call90 (hrows := ⟨⟨fun _ => ⟨Nat.lt_succ_self 1, Nat.lt_succ_self 1, trivial, trivial⟩, rfl⟩, ⟨trivial, rfl⟩, trivial⟩) (hr2 := ⟨fun _ => ⟨rfl, rfl, trivial, trivial⟩, trivial, trivial⟩) (he := ⟨fun _ => ⟨rfl, rfl, trivial, trivial⟩, trivial⟩) 2 [30, 31, 0, 0, 0, 0, 0, 32] [0, 0, 0, 0, 0, 0, 0, 1] [7] ?_
 refine gg (k := ?_)
 refine cmks (del_vc s 0 c l hbd (e : Int) b 1 1 (l.length + 3) 3 va v0 v1 3) Tryz.call89 (hrows := ⟨⟨⟨trivial, trivial⟩, rfl⟩, ⟨⟨(by show 4 < 8; decide), (by show 2 < 8; decide), trivial, trivial, trivial, trivial⟩, rfl⟩, ⟨fun _ => ⟨(by show 3 < 8; decide), (by show 3 < 8; decide), trivial, trivial⟩, rfl⟩, ⟨trivial, rfl⟩, ⟨⟨(by show 5 < 8; decide), trivial, trivial, trivial⟩, rfl⟩, ⟨⟨(by show 6 < 8; decide), trivial, trivial, trivial, trivial, trivial, trivial⟩, rfl⟩, ⟨trivial, rfl⟩, ⟨fun _ => ⟨(by show 3 < 8; decide), (by show 3 < 8; decide), trivial, trivial⟩, rfl⟩, trivial⟩) (hr2 := ⟨⟨trivial, trivial⟩, ⟨rfl, rfl, trivial, trivial, trivial, trivial⟩, fun _ => ⟨rfl, rfl, trivial, trivial⟩, trivial, ⟨rfl, trivial, trivial, trivial⟩, ⟨rfl, trivial, trivial, trivial, trivial, trivial, trivial⟩, trivial, fun _ => ⟨rfl, rfl, trivial, trivial⟩, trivial⟩) 8 [14, 12, 30, 31, 1, 3, 4, 32] [0, 0, 0, 0, 0, 0, 0, 0] [] ?_
 refine gg (k := ?_)
 exact ⟨_, rfl, rfl, rfl, rfl, rfl, trivial⟩
theorem now1 {W : Int} {n k : Nat} (s : FlS) (c : Nat) (g : Goes W n k s) (pa : Lies n k 0 c) (pb : Lies n k c c) (hd : s.dd = false) (hi : (s.cnt c).1 = 1) (l : List Rc) (e : Nat) (b : Bool) (hS : s.scan c c = (l, e, b)) (vs va vb v0 v1 : Nat) : Spec Tryz.prog 54 [.ref 0 vs 3 0 0] [⟨vs, .obj [.ref 3 v0 6 0 0, .ref 1 va 3 0 0, .ref 2 vb 3 0 0]⟩, ⟨va, .obj [.ref 3 v0 6 0 0, .val (.int .i64 ((0 : Nat) : Int)), .val (.int .i64 (c : Int))]⟩, ⟨vb, .obj [.ref 3 v0 6 0 0, .val (.int .i64 (c : Int)), .val (.int .i64 (c : Int))]⟩, ⟨v0, .obj [.own 4 v1 1 0 s.l.length, .val (.int .i64 (s.k : Int)), .val (.int .i64 s.ar), .val (.int .i64 s.pt), .val (.bool s.dd), .val (.int .i64 s.wr)]⟩, ⟨v1, .bytes s.l⟩]
   (pms (.tup [.agg [.ref 2 vb 3 0 0, .own 30 (l.length + 3) 3 0 l.length, .own 32 3 3 0 (keptR l l.length).length, .val (.int .i64 (e : Int)), .val (.bool b)], .val (.int .i64 0)]) [⟨vs, .obj [.ref 3 v0 6 0 0, .ref 1 va 3 0 0, .ref 2 vb 3 0 0]⟩, ⟨va, .obj [.ref 3 v0 6 0 0, .val (.int .i64 ((0 : Nat) : Int)), .val (.int .i64 (c : Int))]⟩, ⟨vb, .obj [.ref 3 v0 6 0 0, .val (.int .i64 (c : Int)), .val (.int .i64 (c : Int))]⟩, ⟨v0, .obj [.own 4 v1 1 0 s.l.length, .val (.int .i64 (s.k : Int)), .val (.int .i64 s.ar), .val (.int .i64 s.pt), .val (.bool s.dd), .val (.int .i64 s.wr)]⟩, ⟨v1, .bytes s.l⟩]
    [(30, ⟨l.length + 3, .row 3 (rrA 31 3) ⟨0, 0, 0, false⟩ (rrOf 0 l)⟩), (31, ⟨3, .pool (poolOf l)⟩), (32, ⟨3, .row 3 (rrA 31 3) ⟨0, 0, 0, false⟩ (keptR l l.length)⟩)]) := by
 have hcv := counts_vc s c g pa pb vs va vb v0 v1
 rw [hi] at hcv
 have hsc := Scan_live s c c g pb hd l.length (by rw [hS]) vb v0 v1
 rw [hS] at hsc
 have hbd := look_bound g pb hS
 have hfw := look_few g pb hS
 refine spec_entry tbOk Tryz.func54 rfl Tryz.ntmps54 Tryz.results54 ?_
 refine gg (k := ?_)
 refine cdet (spec_dead_b s false hd v0 v1) Tryz.call76 [3, 4] ?_
 refine gg (k := ?_)
 refine cmks (hcv) Tryz.call78 5 [0, 1, 2, 3, 4] [0, 0, 0, 0, 0] [] ?_
 refine gg (k := ?_)
 refine cmks (hsc) Tryz.call88 (he := ⟨fun _ => ⟨rfl, rfl, trivial, trivial⟩, trivial, trivial⟩) 3 [2, 3, 4, 0, 0, 0, 0, 0, 0, 0, 0, 0, 0, 30, 31] [0, 0, 0, 0, 0, 0, 0, 0, 0, 0, 0, 0, 0, 1, 1] [13, 14] ?_
 refine gg (k := ?_)
 refine cmks (cloneR_vc (rrOf 0 l) (poolOf l) l.length (l.length + 2 + 1) 3 (rrOf_len l 0).symm (by rw [rrOf_len]; exact hfw)) Tryz.call90 (hrows := ⟨⟨fun _ => ⟨Nat.lt_succ_self 1, Nat.lt_succ_self 1, trivial, trivial⟩, rfl⟩, ⟨trivial, rfl⟩, trivial⟩) (hr2 := ⟨fun _ => ⟨rfl, rfl, trivial, trivial⟩, trivial, trivial⟩) (he := ⟨fun _ => ⟨rfl, rfl, trivial, trivial⟩, trivial⟩) 2 [30, 31, 0, 0, 0, 0, 0, 32] [0, 0, 0, 0, 0, 0, 0, 1] [7] ?_
 refine gg (k := ?_)
 refine cmks (del_vc s c c l hbd (e : Int) b 1 1 (l.length + 3) 3 vb v0 v1 3) Tryz.call89 (hrows := ⟨⟨⟨trivial, trivial⟩, rfl⟩, ⟨⟨(by show 4 < 8; decide), (by show 2 < 8; decide), trivial, trivial, trivial, trivial⟩, rfl⟩, ⟨fun _ => ⟨(by show 3 < 8; decide), (by show 3 < 8; decide), trivial, trivial⟩, rfl⟩, ⟨trivial, rfl⟩, ⟨⟨(by show 5 < 8; decide), trivial, trivial, trivial⟩, rfl⟩, ⟨⟨(by show 6 < 8; decide), trivial, trivial, trivial, trivial, trivial, trivial⟩, rfl⟩, ⟨trivial, rfl⟩, ⟨fun _ => ⟨(by show 3 < 8; decide), (by show 3 < 8; decide), trivial, trivial⟩, rfl⟩, trivial⟩) (hr2 := ⟨⟨trivial, trivial⟩, ⟨rfl, rfl, trivial, trivial, trivial, trivial⟩, fun _ => ⟨rfl, rfl, trivial, trivial⟩, trivial, ⟨rfl, trivial, trivial, trivial⟩, ⟨rfl, trivial, trivial, trivial, trivial, trivial, trivial⟩, trivial, fun _ => ⟨rfl, rfl, trivial, trivial⟩, trivial⟩) 8 [14, 12, 30, 31, 2, 3, 4, 32] [0, 0, 0, 0, 0, 0, 0, 0] [] ?_
 refine gg (k := ?_)
 exact ⟨_, rfl, rfl, rfl, rfl, rfl, trivial⟩
theorem now_dead (s : FlS) (c : Nat) (hd : s.dd = true) (vs va vb v0 v1 : Nat) : Spec Tryz.prog 54 [.ref 0 vs 3 0 0] [⟨vs, .obj [.ref 3 v0 6 0 0, .ref 1 va 3 0 0, .ref 2 vb 3 0 0]⟩, ⟨va, .obj [.ref 3 v0 6 0 0, .val (.int .i64 ((0 : Nat) : Int)), .val (.int .i64 (c : Int))]⟩, ⟨vb, .obj [.ref 3 v0 6 0 0, .val (.int .i64 (c : Int)), .val (.int .i64 (c : Int))]⟩, ⟨v0, .obj [.own 4 v1 1 0 s.l.length, .val (.int .i64 (s.k : Int)), .val (.int .i64 s.ar), .val (.int .i64 s.pt), .val (.bool s.dd), .val (.int .i64 s.wr)]⟩, ⟨v1, .bytes s.l⟩]
   (pms (.tup [.agg [.val (.pointer none), .val (.slice none 0 0), .val (.slice none 0 0), .val (.int .i64 0), .val (.bool false)], .val (.int .i64 6)]) [⟨vs, .obj [.ref 3 v0 6 0 0, .ref 1 va 3 0 0, .ref 2 vb 3 0 0]⟩, ⟨va, .obj [.ref 3 v0 6 0 0, .val (.int .i64 ((0 : Nat) : Int)), .val (.int .i64 (c : Int))]⟩, ⟨vb, .obj [.ref 3 v0 6 0 0, .val (.int .i64 (c : Int)), .val (.int .i64 (c : Int))]⟩, ⟨v0, .obj [.own 4 v1 1 0 s.l.length, .val (.int .i64 (s.k : Int)), .val (.int .i64 s.ar), .val (.int .i64 s.pt), .val (.bool s.dd), .val (.int .i64 s.wr)]⟩, ⟨v1, .bytes s.l⟩] []) := by
 refine spec_entry tbOk Tryz.func54 rfl Tryz.ntmps54 Tryz.results54 ?_
 refine gg (k := ?_)
 refine cdet (spec_dead_b s true hd v0 v1) Tryz.call76 [3, 4] ?_
 refine gg (k := ?_)
 exact ⟨_, rfl, rfl, trivial⟩
end Go.Proofs.YtmjpbmcbcppkfaaGreatDoor
