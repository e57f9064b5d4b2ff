/- Walks of nvram: slices.Clone of records, used. Conditions: none. -/
import Derived.Test.YtebilmfljoiaeaaDoorNv3
namespace Go.Proofs.YtebilmfljoiaeaaDoor
open Go.RowKit
set_option linter.unusedVariables false
set_option linter.unusedSimpArgs false
set_option maxRecDepth 100000
set_option maxHeartbeats 1500000
theorem cloneR_vc (rs : List Rr) (ps : List (List UInt8)) (n va wa : Nat) (hn : n = rs.length) (hl : rs.length ≤ 4194304) : Spec Tryd.prog 40 [.own 0 va 3 0 n] [⟨va, .row 3 (rrA 1 wa) ⟨0, 0, 0, false⟩ rs⟩, ⟨wa, .pool ps⟩]
   (pms (.own 7 2 3 0 n) [⟨va, .row 3 (rrA 1 wa) ⟨0, 0, 0, false⟩ rs⟩, ⟨wa, .pool ps⟩] [(7, ⟨2, .row 3 (rrA 1 wa) ⟨0, 0, 0, false⟩ rs⟩)]) := by
  subst hn
  refine spec_entryW tbOk Tryd.func40 rfl Tryd.ntmps40 Tryd.results40 ?_
  (repeat (first | refine gos (k := ?_) | refine fun (_ : _ = false) => ?_ | refine ⟨fun (_ : true = true) => ?_, fun h => absurd h (by decide)⟩ | refine gtr (k := ?_)))
  conv => whnf
  intro b hb
  cases b with
  | true =>
    have h0 := hb rfl
    have hl0 : rs = [] := List.eq_nil_of_length_eq_zero h0
    subst hl0
    (repeat (first | refine gos (k := ?_) | refine fun (_ : _ = false) => ?_ | refine ⟨fun (_ : true = true) => ?_, fun h => absurd h (by decide)⟩ | refine gtr (k := ?_)))
    (refine sts (k := ?_))
    refine ⟨_, leS_nil 7 2 (.row 3 (rrA 1 wa) ⟨0, 0, 0, false⟩ []) rfl (by decide) rfl (t' := [.any, .any, .own 7 2 3 0 0, .any, .any, .any, .any, .any]) ?_, ?_⟩
    · simp [leTn, setD, setL, updH, evA, unA, getA, getL, constA, undefs, deads]
    (repeat (first | refine gos (k := ?_) | refine fun (_ : _ = false) => ?_ | refine ⟨fun (_ : true = true) => ?_, fun h => absurd h (by decide)⟩ | refine gtr (k := ?_)))
    exact ⟨_, rfl, rfl, by simp [allM, getL]⟩
  | false =>
    (repeat (first | refine gos (k := ?_) | refine fun (_ : _ = false) => ?_ | refine ⟨fun (_ : true = true) => ?_, fun h => absurd h (by decide)⟩ | refine gtr (k := ?_)))
    conv => whnf
    refine ⟨Rr, rrA 1 wa, ⟨0, 0, 0, false⟩, rs, ?_⟩
    conv => whnf
    refine And.intro ⟨rfl, ⟨rfl, rfl, by omega, fun _ _ => ⟨rfl, rfl, rfl, trivial⟩⟩, rfl, rfl, rfl, rfl, .inr rfl, by (show List.map _ (List.take rs.length (List.drop 0 rs)) = _; rw [List.drop_zero, List.take_length]), by (show rs.length * 56 ≤ _; omega), by decide⟩ ?_
    (repeat (first | refine gos (k := ?_) | refine fun (_ : _ = false) => ?_ | refine ⟨fun (_ : true = true) => ?_, fun h => absurd h (by decide)⟩ | refine gtr (k := ?_)))
    refine ⟨_, leS_refl _, ?_⟩
    (repeat (first | refine gos (k := ?_) | refine fun (_ : _ = false) => ?_ | refine ⟨fun (_ : true = true) => ?_, fun h => absurd h (by decide)⟩ | refine gtr (k := ?_)))
    exact ⟨_, rfl, rfl, rfl, trivial⟩
theorem usedK_take (l : List RK) (j : Nat) (h : j < l.length) : usedK (l.take (j + 1)) = usedK (l.take j) + (12 + (l.getD j rk0).key.length + (l.getD j rk0).val.length) := by
  have key : ∀ (a : List RK) (r : RK), usedK (a ++ [r]) = usedK a + (12 + r.key.length + r.val.length) := by
    intro a r
    induction a with
    | nil => simp [usedK]
    | cons x a ih => simp only [List.cons_append, usedK, ih]; omega
  rw [List.take_succ_eq_append_getElem h, key, List.getD_eq_getElem?_getD, List.getElem?_eq_getElem h]; rfl
theorem usedK_append (a b : List RK) : usedK (a ++ b) = usedK a + usedK b := by
  induction a with
  | nil => simp [usedK]
  | cons x a ih => simp only [List.cons_append, usedK, ih]; omega
theorem usedK_le (l : List RK) (j : Nat) : usedK (l.take j) ≤ usedK l := by
  have := usedK_append (l.take j) (l.drop j)
  rw [List.take_append_drop] at this; omega
theorem used_vc {rs : List Rr} {ps : List (List UInt8)} {la : List RK} (h : RRel rs ps la) (hb : usedK la ≤ 4611686018427387000) (hl : la.length ≤ 140737488355328) (s : FlS) (a c : Nat) (l : List Rc) (e : Int) (b : Bool) (n va wa vr vb v0 v1 : Nat) (hn : n = rs.length) : Spec Tryd.prog 25 [.agg [.ref 3 vb 3 0 0, .own 2 vr 3 0 l.length, .own 0 va 3 0 n, .val (.int .i64 e), .val (.bool b)]] [⟨va, .row 3 (rrA 1 wa) ⟨0, 0, 0, false⟩ rs⟩, ⟨wa, .pool ps⟩, ⟨vr, .row 3 (rrA 1 wa) ⟨0, 0, 0, false⟩ (rrOf 0 l)⟩, ⟨vb, .obj [.ref 4 v0 6 0 0, .val (.int .i64 (a : Int)), .val (.int .i64 (c : Int))]⟩, ⟨v0, .obj [.own 5 v1 1 0 s.l.length, .val (.int .i64 (s.k : Int)), .val (.int .i64 s.ar), .val (.int .i64 s.pt), .val (.bool s.dd), .val (.int .i64 s.wr)]⟩, ⟨v1, .bytes s.l⟩]
   (pms (.val (.int .i64 (usedK la : Int))) [⟨va, .row 3 (rrA 1 wa) ⟨0, 0, 0, false⟩ rs⟩, ⟨wa, .pool ps⟩, ⟨vr, .row 3 (rrA 1 wa) ⟨0, 0, 0, false⟩ (rrOf 0 l)⟩, ⟨vb, .obj [.ref 4 v0 6 0 0, .val (.int .i64 (a : Int)), .val (.int .i64 (c : Int))]⟩, ⟨v0, .obj [.own 5 v1 1 0 s.l.length, .val (.int .i64 (s.k : Int)), .val (.int .i64 s.ar), .val (.int .i64 s.pt), .val (.bool s.dd), .val (.int .i64 s.wr)]⟩, ⟨v1, .bytes s.l⟩] []) := by
  subst hn
  have hlen := h.len
  refine spec_entry tbOk Tryd.func25 rfl Tryd.ntmps25 Tryd.results25 ?_
  (repeat (first | refine gos (k := ?_) | refine fun (_ : _ = false) => ?_ | refine ⟨fun (_ : true = true) => ?_, fun h => absurd h (by decide)⟩ | refine gtr (k := ?_)))
  (refine sts (k := ?_))
  conv => whnf
  refine loop_at (fun j : Nat => j ≤ la.length) (fun j => la.length - j) 6 [3, 5, 9, 10, 11, 12, 13, 14, 15, 16, 17, 18, 19, 20, 21, 22] (fun j => [(3, .val (.int .i64 (usedK (la.take j) : Int))), (9, .val (.int .i64 (j : Int)))]) (fun j => []) 0 (Nat.zero_le _) ?_ ?_ ?_
  · ((try dsimp only [lpS, anyT, putT, setL]); (repeat (refine And.intro (by first | exact trivial | exact rfl) ?_)); (first | exact trivial | skip))
  · ((try dsimp only [lpS, deadH, putH, setL, Nat.reduceAdd, Nat.zero_add]); (repeat (refine And.intro (by first | exact rfl | exact trivial) ?_)); (first | exact trivial | skip))
  · rintro j v hj
    (dsimp only [lpS, anyT, putT, setL, deadH, putH, Nat.reduceAdd, Nat.zero_add])
    (repeat (first | refine gos (k := ?_) | refine fun (_ : _ = false) => ?_ | refine ⟨fun (_ : true = true) => ?_, fun h => absurd h (by decide)⟩ | refine gtr (k := ?_)))
    refine ⟨fun h' => ?_, fun h' => ?_⟩
    · have hlt : j < la.length := by have := of_decide_eq_true h'; omega
      have hu := usedK_take la j hlt
      have hu2 := usedK_le la (j + 1)
      have hjr : j < rs.length := by omega
      obtain ⟨y1, y2, y3, y4, y5⟩ := h.el j _ _ (List.getElem?_eq_getElem hjr) (List.getElem?_eq_getElem hlt)
      have hg : rs.getD j ⟨0, 0, 0, false⟩ = rs[j] := by rw [List.getD_eq_getElem?_getD, List.getElem?_eq_getElem hjr]; rfl
      have hgl : la.getD j rk0 = la[j] := by rw [List.getD_eq_getElem?_getD, List.getElem?_eq_getElem hlt]; rfl
      rw [hgl, ← y2, ← y4] at hu
      generalize rs[j] = x at hg hu
      (repeat (first | refine gos (k := ?_) | refine fun (_ : _ = false) => ?_ | refine ⟨fun (_ : true = true) => ?_, fun h => absurd h (by decide)⟩ | refine gtr (k := ?_)))
      simp only [Int.toNat_natCast, Nat.zero_add]
      try ((conv => whnf); (refine And.intro ⟨rfl, ⟨rfl, hjr⟩, Nat.le_of_ble_eq_true rfl⟩ ?_))
      rw [hg]
      (repeat (first | refine gos (k := ?_) | refine fun (_ : _ = false) => ?_ | refine ⟨fun (_ : true = true) => ?_, fun h => absurd h (by decide)⟩ | refine gtr (k := ?_)))
      refine cdet (need_vc (x.kn : Int) (x.vn : Int) (by omega) (by omega)) Tryd.call24 [] ?_
      (repeat (first | refine gos (k := ?_) | refine fun (_ : _ = false) => ?_ | refine ⟨fun (_ : true = true) => ?_, fun h => absurd h (by decide)⟩ | refine gtr (k := ?_)))
      rw [show (usedK (la.take j) : Int) + (12 + (x.kn : Int) + (x.vn : Int)) = (usedK (la.take (j + 1)) : Int) by omega]
      refine back_at (j + 1) hlt (by show la.length - (j + 1) < la.length - j; omega) ?_ ?_
      · ((try dsimp only [lpS, anyT, putT, setL]); (repeat (refine And.intro (by first | exact trivial | exact rfl) ?_)); (first | exact trivial | skip))
      · ((try dsimp only [lpS, deadH, putH, setL, Nat.reduceAdd, Nat.zero_add]); (repeat (refine And.intro (by first | exact rfl | exact trivial) ?_)); (first | exact trivial | skip))
    · obtain rfl : j = la.length := by have := of_decide_eq_false h'; omega
      rw [List.take_length]
      (repeat (first | refine gos (k := ?_) | refine fun (_ : _ = false) => ?_ | refine ⟨fun (_ : true = true) => ?_, fun h => absurd h (by decide)⟩ | refine gtr (k := ?_)))
      exact ⟨_, rfl, rfl, trivial⟩
end Go.Proofs.YtebilmfljoiaeaaDoor
