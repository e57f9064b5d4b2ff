/- Walks of nvram: the records that are the store: slices.DeleteFunc. Conditions: none. -/
import Derived.Test.YtebilmfljoiaeaaDoorNv2
namespace Go.Proofs.YtebilmfljoiaeaaDoor
open Go.RowKit
set_option linter.unusedVariables false
set_option linter.unusedSimpArgs false
set_option maxRecDepth 100000
set_option maxHeartbeats 1500000
/-- the first cells, told otherwise -/
theorem WeakE.rowT (v sz : Nat) {α β : Type} {f : α → List AV} {d : α} {l : List α} {f' : β → List AV} {d' : β} {l' : List β} (h : l'.map f' = (l.map f).take l'.length) : WeakE ⟨v, .row sz f d l⟩ ⟨v, .row sz f' d' l'⟩ := by
  have hl : l'.length ≤ l.length := by have := congrArg List.length h; simp only [List.length_map, List.length_take] at this; omega
  refine ⟨rfl, fun _ => rfl, fun q => ?_, fun _ E w b h0 => ⟨fun _ => ?_, fun _ _ _ q => by cases q⟩, fun _ q => by cases q⟩
  · simp only [Bd.count] at q ⊢; omega
  · obtain ⟨cur, T, lo, hi, h1, h2, h3, h4⟩ := h0.blk rfl
    refine ⟨cur, T, lo, hi, h1, h2, ?_, fun i ys hy => ?_⟩
    · simp only [Bd.count, Bd.sz] at h3 ⊢
      exact Nat.le_trans (Nat.mul_le_mul_right _ hl) h3
    · refine h4 i ys ?_
      simp only [Bd.at] at hy ⊢
      rw [← List.getElem?_map, h, List.getElem?_take] at hy
      rw [← List.getElem?_map]
      split at hy
      · exact hy
      · cases hy
def rr0 : Rr := ⟨0, 0, 0, false⟩
/-- the rows of the records that are the store -/
def keptR (l : List Rc) (n : Nat) : List Rr := (keptI (l.map rkOf) n).map fun j => (rrOf 0 l).getD j ⟨0, 0, 0, false⟩
def stR (l : List Rc) (j : Nat) : List Rr := keptR l j ++ (rrOf 0 l).drop (keptI (l.map rkOf) j).length
theorem keptR_len (l : List Rc) (n : Nat) : (keptR l n).length = (keptI (l.map rkOf) n).length := by simp [keptR]
theorem stR_len (l : List Rc) (j : Nat) (hj : j ≤ l.length) : (stR l j).length = l.length := by
  have := keptI_len (l.map rkOf) j
  unfold stR
  rw [List.length_append, keptR_len, List.length_drop, rrOf_len]; omega
theorem stR_get (l : List Rc) (j : Nat) (hj : j < l.length) : (stR l j).getD j ⟨0, 0, 0, false⟩ = (rrOf 0 l).getD j ⟨0, 0, 0, false⟩ := by
  have := keptI_len (l.map rkOf) j
  unfold stR
  rw [List.getD_eq_getElem?_getD, List.getElem?_append_right (by rw [keptR_len]; omega), List.getElem?_drop, keptR_len, Nat.add_sub_cancel' this, ← List.getD_eq_getElem?_getD]
theorem keptR_succ (l : List Rc) (j : Nat) : keptR l (j + 1) = keptR l j ++ if keepB (l.map rkOf) j then [(rrOf 0 l).getD j ⟨0, 0, 0, false⟩] else [] := by
  unfold keptR
  rw [keptI_succ, List.map_append]
  congr 1
  split <;> rfl
theorem stR_no (l : List Rc) (j : Nat) (h : keepB (l.map rkOf) j = false) : stR l (j + 1) = stR l j ∧ (keptI (l.map rkOf) (j + 1)).length = (keptI (l.map rkOf) j).length := by
  have h1 : keptI (l.map rkOf) (j + 1) = keptI (l.map rkOf) j := by rw [keptI_succ, h]; simp
  have h2 : keptR l (j + 1) = keptR l j := by rw [keptR_succ, h]; simp
  exact ⟨by unfold stR; rw [h1, h2], by rw [h1]⟩
theorem stR_yes (l : List Rc) (j : Nat) (hj : j < l.length) (h : keepB (l.map rkOf) j = true) : (stR l j).set (keptI (l.map rkOf) j).length ((rrOf 0 l).getD j ⟨0, 0, 0, false⟩) = stR l (j + 1) ∧ (keptI (l.map rkOf) (j + 1)).length = (keptI (l.map rkOf) j).length + 1 := by
  have h0 := keptI_len (l.map rkOf) j
  have h1 : (keptI (l.map rkOf) (j + 1)).length = (keptI (l.map rkOf) j).length + 1 := by rw [keptI_succ, h]; simp
  refine ⟨?_, h1⟩
  unfold stR
  rw [h1, keptR_succ, h, if_pos rfl, List.set_append_right _ _ (by rw [keptR_len]; exact Nat.le_refl _), keptR_len, Nat.sub_self, List.append_assoc]
  congr 1
  rw [List.drop_eq_getElem_cons (by rw [rrOf_len]; omega), List.set_cons_zero]
  rfl
theorem first_ex (p : Nat → Bool) : ∀ n : Nat, ∃ i, i ≤ n ∧ (∀ j, j < i → p j = true) ∧ (i < n → p i = false)
  | 0 => ⟨0, Nat.le_refl _, fun j h => absurd h (Nat.not_lt_zero j), fun h => absurd h (Nat.lt_irrefl 0)⟩
  | n + 1 => by
    obtain ⟨i, h1, h2, h3⟩ := first_ex p n
    by_cases h : i < n
    · exact ⟨i, by omega, h2, fun _ => h3 h⟩
    · obtain rfl : i = n := by omega
      cases hp : p i with
      | true => exact ⟨i + 1, Nat.le_refl _, fun j hj => by rcases Nat.lt_or_eq_of_le (Nat.le_of_lt_succ hj) with q | q; exact h2 j q; rw [q]; exact hp, fun q => absurd q (Nat.lt_irrefl _)⟩
      | false => exact ⟨i, Nat.le_succ _, h2, fun _ => hp⟩
theorem kept_all (l : List RK) : ∀ n : Nat, (∀ j, j < n → keepB l j = true) → keptI l n = List.range n := by
  intro n h
  unfold keptI
  rw [List.filter_eq_self]
  intro j hj
  exact h j (List.mem_range.1 hj)
theorem stR_all (l : List Rc) (j : Nat) (hj : j ≤ l.length) (h : ∀ i, i < j → keepB (l.map rkOf) i = true) : stR l j = rrOf 0 l ∧ (keptI (l.map rkOf) j).length = j := by
  have h1 := kept_all _ j h
  have h2 : keptR l j = (rrOf 0 l).take j := by
    unfold keptR
    rw [h1]
    apply List.ext_getElem?
    intro q
    rw [List.getElem?_map, List.getElem?_take]
    by_cases hq : q < j
    · have hl : q < (rrOf 0 l).length := by rw [rrOf_len]; omega
      rw [List.getElem?_range hq, if_pos hq, Option.map_some, List.getD_eq_getElem?_getD, List.getElem?_eq_getElem hl]; rfl
    · rw [if_neg hq, List.getElem?_eq_none (by simp; omega)]; rfl
  refine ⟨?_, by rw [h1, List.length_range]⟩
  unfold stR
  rw [h1, h2, List.length_range, List.take_append_drop]
theorem optF_head {α : Type} (f : α → List AV) (z : List Value) (A : List α) (R : List (Option α)) : A.map f = ((A.map some ++ R).map (optF f z)).take A.length := by
  rw [List.map_append, List.map_map, List.take_left' (by simp)]; rfl
theorem stR_take (l : List Rc) (j : Nat) : (stR l j).take (keptI (l.map rkOf) j).length = keptR l j := by
  unfold stR
  exact List.take_left' (keptR_len l j)
theorem del_vc (s : FlS) (a c : Nat) (l : List Rc) (hb : (∀ r ∈ l.map rkOf, r.key.length ≤ 140737488355328 ∧ r.val.length ≤ 140737488355328) ∧ (l.map rkOf).length ≤ 140737488355328) (e : Int) (b : Bool) (vt vx vr vw vb v0 v1 vs : Nat) :
   Spec Tryd.prog 39 [.own 7 vs 3 0 l.length, .clo 41 [.ref 0 vt 1 0 0, .ref 1 vx 5 0 0]] [⟨vt, .obj [.val (.int .i64 0)]⟩, ⟨vx, .obj [.ref 4 vb 3 0 0, .own 2 vr 3 0 l.length, .val (.slice none 0 0), .val (.int .i64 e), .val (.bool b)]⟩, ⟨vr, .row 3 (rrA 3 vw) ⟨0, 0, 0, false⟩ (rrOf 0 l)⟩, ⟨vw, .pool (poolOf l)⟩, ⟨vb, .obj [.ref 5 v0 6 0 0, .val (.int .i64 (a : Int)), .val (.int .i64 (c : Int))]⟩, ⟨v0, .obj [.own 6 v1 1 0 s.l.length, .val (.int .i64 (s.k : Int)), .val (.int .i64 s.ar), .val (.int .i64 s.pt), .val (.bool s.dd), .val (.int .i64 s.wr)]⟩, ⟨v1, .bytes s.l⟩, ⟨vs, .row 3 (rrA 3 vw) ⟨0, 0, 0, false⟩ (rrOf 0 l)⟩]
   (pms (.own 7 vs 3 0 (keptR l l.length).length) [⟨vt, .obj [.val (.int .i64 (l.length : Int))]⟩, ⟨vx, .obj [.ref 4 vb 3 0 0, .own 2 vr 3 0 l.length, .val (.slice none 0 0), .val (.int .i64 e), .val (.bool b)]⟩, ⟨vr, .row 3 (rrA 3 vw) ⟨0, 0, 0, false⟩ (rrOf 0 l)⟩, ⟨vw, .pool (poolOf l)⟩, ⟨vb, .obj [.ref 5 v0 6 0 0, .val (.int .i64 (a : Int)), .val (.int .i64 (c : Int))]⟩, ⟨v0, .obj [.own 6 v1 1 0 s.l.length, .val (.int .i64 (s.k : Int)), .val (.int .i64 s.ar), .val (.int .i64 s.pt), .val (.bool s.dd), .val (.int .i64 s.wr)]⟩, ⟨v1, .bytes s.l⟩, ⟨vs, .row 3 (rrA 3 vw) ⟨0, 0, 0, false⟩ (keptR l l.length)⟩] []) := by
  have hlb : l.length ≤ 140737488355328 := by have := hb.2; rw [List.length_map] at this; exact this
  obtain ⟨i, i1, i2, i3⟩ := first_ex (keepB (l.map rkOf)) l.length
  have hidx := idx_vc s a c l hb i i1 i2 i3 e b vt vx vr vw vb v0 v1 vs
  refine spec_entryW tbOk Tryd.func39 rfl Tryd.ntmps39 Tryd.results39 ?_
  (repeat (first | refine gos (k := ?_) | refine fun (_ : _ = false) => ?_ | refine ⟨fun (_ : true = true) => ?_, fun h => absurd h (by decide)⟩ | refine gtr (k := ?_)))
  refine cmks (hidx) Tryd.call56 (hrows := ⟨⟨⟨trivial, trivial⟩, rfl⟩, ⟨⟨(by show 4 < 8; decide), (by show 2 < 8; decide), trivial, trivial, trivial, trivial⟩, rfl⟩, ⟨fun _ => ⟨(by show 3 < 8; decide), (by show 3 < 8; decide), trivial, trivial⟩, rfl⟩, ⟨trivial, rfl⟩, ⟨⟨(by show 5 < 8; decide), trivial, trivial, trivial⟩, rfl⟩, ⟨⟨(by show 6 < 8; decide), trivial, trivial, trivial, trivial, trivial, trivial⟩, rfl⟩, ⟨trivial, rfl⟩, ⟨fun _ => ⟨(by show 3 < 8; decide), (by show 3 < 8; decide), trivial, trivial⟩, rfl⟩, trivial⟩) (hr2 := ⟨⟨trivial, trivial⟩, ⟨rfl, rfl, trivial, trivial, trivial, trivial⟩, fun _ => ⟨rfl, rfl, trivial, trivial⟩, trivial, ⟨rfl, trivial, trivial, trivial⟩, ⟨rfl, trivial, trivial, trivial, trivial, trivial, trivial⟩, trivial, fun _ => ⟨rfl, rfl, trivial, trivial⟩, trivial⟩) 8 [0, 1, 2, 3, 4, 5, 6, 7] [0, 0, 0, 0, 0, 0, 0, 0] [] ?_
  by_cases hin : i < l.length
  · rw [if_pos hin, if_pos hin]
    obtain ⟨q1, q2⟩ := stR_all l i i1 i2
    obtain ⟨q3, q4⟩ := stR_no l i (i3 hin)
    (repeat (first | refine gos (k := ?_) | refine fun (_ : _ = false) => ?_ | refine ⟨fun (_ : true = true) => ?_, fun h => absurd h (by decide)⟩ | refine gtr (k := ?_)))
    (refine sts (k := ?_))
    conv => whnf
    refine loop_at (fun j : Nat => i + 1 ≤ j ∧ j ≤ l.length ∧ (keptI (l.map rkOf) j).length < j) (fun j => l.length - j) 8 [5, 6, 7, 16, 17, 18, 19, 20, 21, 22, 23, 24, 25, 26, 27, 28, 29, 30, 31, 32, 33, 34, 35] (fun j => [(5, .val (.int .i64 ((keptI (l.map rkOf) j).length : Int))), (6, .val (.int .i64 (j : Int)))]) (fun j => [(0, ⟨vt, .obj [.val (.int .i64 (j : Int))]⟩), (7, ⟨vs, .row 3 (rrA 3 vw) ⟨0, 0, 0, false⟩ (stR l j)⟩)]) (i + 1) ⟨Nat.le_refl _, hin, by rw [q4, q2]; exact Nat.lt_succ_self _⟩ ?_ ?_ ?_
    · dsimp only [lpS, anyT, putT, setL]
      rw [q4, q2]
      ((try dsimp only [lpS, anyT, putT, setL]); (repeat (refine And.intro (by first | exact trivial | exact rfl) ?_)); (first | exact trivial | skip))
    · dsimp only [lpS, deadH, putH, setL, Nat.reduceAdd, Nat.zero_add]
      rw [q3, q1]
      ((try dsimp only [lpS, deadH, putH, setL, Nat.reduceAdd, Nat.zero_add]); (repeat (refine And.intro (by first | exact rfl | exact trivial) ?_)); (first | exact trivial | skip))
    · rintro j v ⟨j1, j2, j3⟩
      have hsl := stR_len l j j2
      (dsimp only [lpS, anyT, putT, setL, deadH, putH, Nat.reduceAdd, Nat.zero_add])
      (repeat (first | refine gos (k := ?_) | refine fun (_ : _ = false) => ?_ | refine ⟨fun (_ : true = true) => ?_, fun h => absurd h (by decide)⟩ | refine gtr (k := ?_)))
      refine ⟨fun h => ?_, fun h => ?_⟩
      · have hlt : j < l.length := by have := of_decide_eq_true h; omega
        have hsg := stR_get l j hlt
        (repeat (first | refine gos (k := ?_) | refine fun (_ : _ = false) => ?_ | refine ⟨fun (_ : true = true) => ?_, fun h => absurd h (by decide)⟩ | refine gtr (k := ?_)))
        (try simp only [Int.toNat_natCast, Nat.zero_add])
        (repeat (first | refine gos (k := ?_) | refine fun (_ : _ = false) => ?_ | refine ⟨fun (_ : true = true) => ?_, fun h => absurd h (by decide)⟩ | refine gtr (k := ?_)))
        try ((conv => whnf); (refine And.intro ⟨rfl, ⟨rfl, by rw [hsl]; exact hlt⟩, Nat.le_of_ble_eq_true rfl⟩ ?_))
        rw [hsg]
        (repeat (first | refine gos (k := ?_) | refine fun (_ : _ = false) => ?_ | refine ⟨fun (_ : true = true) => ?_, fun h => absurd h (by decide)⟩ | refine gtr (k := ?_)))
        refine cmks (pred_vc s a c l hb j hlt e b vt vx vr vw vb v0 v1) Tryd.call41 (hrows := ⟨⟨⟨trivial, trivial⟩, rfl⟩, ⟨⟨(by show 4 < 7; decide), (by show 2 < 7; decide), trivial, trivial, trivial, trivial⟩, rfl⟩, ⟨fun _ => ⟨(by show 3 < 7; decide), (by show 3 < 7; decide), trivial, trivial⟩, rfl⟩, ⟨trivial, rfl⟩, ⟨⟨(by show 5 < 7; decide), trivial, trivial, trivial⟩, rfl⟩, ⟨⟨(by show 6 < 7; decide), trivial, trivial, trivial, trivial, trivial, trivial⟩, rfl⟩, ⟨trivial, rfl⟩, trivial⟩) (hr2 := ⟨⟨trivial, trivial⟩, ⟨rfl, rfl, trivial, trivial, trivial, trivial⟩, fun _ => ⟨rfl, rfl, trivial, trivial⟩, trivial, ⟨rfl, trivial, trivial, trivial⟩, ⟨rfl, trivial, trivial, trivial, trivial, trivial, trivial⟩, trivial, trivial⟩) (hon := ⟨⟨(by show 3 < 7; decide), (by show 3 < 7; decide), trivial, trivial⟩, (by show 0 < 7; decide), (by show 1 < 7; decide), trivial⟩) 7 [0, 1, 2, 3, 4, 5, 6] [0, 0, 0, 0, 0, 0, 0] [] ?_
        cases hkb : keepB (l.map rkOf) j with
        | false =>
          obtain ⟨w1, w2⟩ := stR_no l j hkb
          (repeat (first | refine gos (k := ?_) | refine fun (_ : _ = false) => ?_ | refine ⟨fun (_ : true = true) => ?_, fun h => absurd h (by decide)⟩ | refine gtr (k := ?_)))
          refine back_at (j + 1) ⟨by omega, hlt, by rw [w2]; omega⟩ (by show l.length - (j + 1) < l.length - j; omega) ?_ ?_
          · dsimp only [lpS, anyT, putT, setL]
            rw [w2]
            ((try dsimp only [lpS, anyT, putT, setL]); (repeat (refine And.intro (by first | exact trivial | exact rfl) ?_)); (first | exact trivial | skip))
          · dsimp only [lpS, deadH, putH, setL, Nat.reduceAdd, Nat.zero_add]
            rw [w1]
            ((try dsimp only [lpS, deadH, putH, setL, Nat.reduceAdd, Nat.zero_add]); (repeat (refine And.intro (by first | exact rfl | exact trivial) ?_)); (first | exact trivial | skip))
        | true =>
          obtain ⟨w1, w2⟩ := stR_yes l j hlt hkb
          (repeat (first | refine gos (k := ?_) | refine fun (_ : _ = false) => ?_ | refine ⟨fun (_ : true = true) => ?_, fun h => absurd h (by decide)⟩ | refine gtr (k := ?_)))
          (try simp only [Int.toNat_natCast, Nat.zero_add])
          refine ⟨(rrOf 0 l).getD j ⟨0, 0, 0, false⟩, ?_⟩
          try ((conv => whnf); (refine And.intro ⟨rfl, rfl, by rw [hsl]; omega, ⟨rfl, rfl, rfl, trivial⟩, rfl, by decide, rfl⟩ ?_))
          rw [w1]
          (repeat (first | refine gos (k := ?_) | refine fun (_ : _ = false) => ?_ | refine ⟨fun (_ : true = true) => ?_, fun h => absurd h (by decide)⟩ | refine gtr (k := ?_)))
          refine back_at (j + 1) ⟨by omega, hlt, by rw [w2]; omega⟩ (by show l.length - (j + 1) < l.length - j; omega) ?_ ?_
          · dsimp only [lpS, anyT, putT, setL]
            rw [w2]
            ((try dsimp only [lpS, anyT, putT, setL]); (repeat (refine And.intro (by first | exact trivial | exact rfl) ?_)); (first | exact trivial | skip))
          · ((try dsimp only [lpS, deadH, putH, setL, Nat.reduceAdd, Nat.zero_add]); (repeat (refine And.intro (by first | exact rfl | exact trivial) ?_)); (first | exact trivial | skip))
      · obtain rfl : j = l.length := by have := of_decide_eq_false h; omega
        (repeat (first | refine gos (k := ?_) | refine fun (_ : _ = false) => ?_ | refine ⟨fun (_ : true = true) => ?_, fun h => absurd h (by decide)⟩ | refine gtr (k := ?_)))
        (try simp only [Int.toNat_natCast, Nat.zero_add])
        try ((conv => whnf); (refine And.intro ⟨rfl, rfl, by omega, by rw [hsl]; omega, rfl, rfl⟩ ?_))
        (repeat (first | refine gos (k := ?_) | refine fun (_ : _ = false) => ?_ | refine ⟨fun (_ : true = true) => ?_, fun h => absurd h (by decide)⟩ | refine gtr (k := ?_)))
        (try simp only [Int.toNat_natCast, Nat.zero_add])
        (refine sts (k := ?_))
        refine ⟨_, leS_row 7 ⟨vs, .row 3 (rrA 3 vw) ⟨0, 0, 0, false⟩ (keptR l l.length)⟩ rfl (WeakE.rowT vs 3 (by rw [stR_take]; exact optF_head ..)), ?_⟩
        (repeat (first | refine gos (k := ?_) | refine fun (_ : _ = false) => ?_ | refine ⟨fun (_ : true = true) => ?_, fun h => absurd h (by decide)⟩ | refine gtr (k := ?_)))
        rw [keptR_len]
        exact ⟨_, rfl, rfl, trivial⟩
  · obtain rfl : i = l.length := by omega
    obtain ⟨q1, q2⟩ := stR_all l l.length i1 i2
    have e1 : keptR l l.length = rrOf 0 l := by
      unfold stR at q1
      rw [q2, List.drop_of_length_le (by rw [rrOf_len]; exact Nat.le_refl _), List.append_nil] at q1
      exact q1
    have e2 : (rrOf 0 l).length = l.length := rrOf_len l 0
    rw [if_neg hin, if_neg hin, e1, e2]
    (repeat (first | refine gos (k := ?_) | refine fun (_ : _ = false) => ?_ | refine ⟨fun (_ : true = true) => ?_, fun h => absurd h (by decide)⟩ | refine gtr (k := ?_)))
    (refine sts (k := ?_))
    refine ⟨_, leS_refl _, ?_⟩
    (repeat (first | refine gos (k := ?_) | refine fun (_ : _ = false) => ?_ | refine ⟨fun (_ : true = true) => ?_, fun h => absurd h (by decide)⟩ | refine gtr (k := ?_)))
    exact ⟨_, rfl, rfl, trivial⟩
end Go.Proofs.YtebilmfljoiaeaaDoor
