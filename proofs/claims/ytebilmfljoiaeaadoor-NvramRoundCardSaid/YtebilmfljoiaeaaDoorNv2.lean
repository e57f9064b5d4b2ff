/- Walks of nvram: now's closure, over the records. Conditions: none. -/
import Derived.Test.YtebilmfljoiaeaaDoorNv1
namespace Go.Proofs.YtebilmfljoiaeaaDoor
open Go.RowKit
set_option linter.unusedVariables false
set_option linter.unusedSimpArgs false
set_option maxRecDepth 100000
set_option maxHeartbeats 1500000
theorem last_own {rs : List Rr} {ps : List (List UInt8)} {la : List RK} (h : RRel rs ps la) (hb : (∀ r ∈ la, r.key.length ≤ 140737488355328 ∧ r.val.length ≤ 140737488355328) ∧ la.length ≤ 140737488355328) {i : Nat} {key : List UInt8} (hi : ps[i]? = some key) (na kn va wa : Nat) (hna : na = rs.length) (hkn : kn = key.length) :
    Spec Tryd.prog 28 [.own 0 va 3 0 na, .pl 1 wa i 0 kn] [⟨va, .row 3 (rrA 1 wa) ⟨0, 0, 0, false⟩ rs⟩, ⟨wa, .pool ps⟩]
      (pms (.val (.int .i64 (lastK la key))) [⟨va, .row 3 (rrA 1 wa) ⟨0, 0, 0, false⟩ rs⟩, ⟨wa, .pool ps⟩] []) := by
  have a := as_pl (rows := [⟨va, .row 3 (rrA 1 wa) ⟨0, 0, 0, false⟩ rs⟩, ⟨wa, .pool ps⟩]) (r := 1) (off := 0) (n := kn) rfl hi (by omega)
  rw [hkn, whole, ← hkn] at a
  exact spec_ro (last_vc 0 0 la key (fun r hr => (hb.1 r hr).1) hb.2) trivial trivial (rows := [⟨va, .row 3 (rrA 1 wa) ⟨0, 0, 0, false⟩ rs⟩, ⟨wa, .pool ps⟩]) (args := [.own 0 va 3 0 na, .pl 1 wa i 0 kn])
    (asL_cons (as_recs h rfl rfl hna) (asL_cons a asL_nil))
theorem pred_vc (s : FlS) (a c : Nat) (l : List Rc) (hb : (∀ r ∈ l.map rkOf, r.key.length ≤ 140737488355328 ∧ r.val.length ≤ 140737488355328) ∧ (l.map rkOf).length ≤ 140737488355328) (j : Nat) (hj : j < l.length) (e : Int) (b : Bool) (vt vx vr vw vb v0 v1 : Nat) :
   Spec Tryd.prog 41 [.agg (rrA 3 vw ((rrOf 0 l).getD j ⟨0, 0, 0, false⟩)), .ref 0 vt 1 0 0, .ref 1 vx 5 0 0] [⟨vt, .obj [.val (.int .i64 (j : Int))]⟩, ⟨vx, .obj [.ref 4 vb 3 0 0, .own 2 vr 3 0 l.length, .val (.slice none 0 0), .val (.int .i64 e), .val (.bool b)]⟩, ⟨vr, .row 3 (rrA 3 vw) ⟨0, 0, 0, false⟩ (rrOf 0 l)⟩, ⟨vw, .pool (poolOf l)⟩, ⟨vb, .obj [.ref 5 v0 6 0 0, .val (.int .i64 (a : Int)), .val (.int .i64 (c : Int))]⟩, ⟨v0, .obj [.own 6 v1 1 0 s.l.length, .val (.int .i64 (s.k : Int)), .val (.int .i64 s.ar), .val (.int .i64 s.pt), .val (.bool s.dd), .val (.int .i64 s.wr)]⟩, ⟨v1, .bytes s.l⟩]
   (pms (.val (.bool (!keepB (l.map rkOf) j))) [⟨vt, .obj [.val (.int .i64 ((j : Int) + 1))]⟩, ⟨vx, .obj [.ref 4 vb 3 0 0, .own 2 vr 3 0 l.length, .val (.slice none 0 0), .val (.int .i64 e), .val (.bool b)]⟩, ⟨vr, .row 3 (rrA 3 vw) ⟨0, 0, 0, false⟩ (rrOf 0 l)⟩, ⟨vw, .pool (poolOf l)⟩, ⟨vb, .obj [.ref 5 v0 6 0 0, .val (.int .i64 (a : Int)), .val (.int .i64 (c : Int))]⟩, ⟨v0, .obj [.own 6 v1 1 0 s.l.length, .val (.int .i64 (s.k : Int)), .val (.int .i64 s.ar), .val (.int .i64 s.pt), .val (.bool s.dd), .val (.int .i64 s.wr)]⟩, ⟨v1, .bytes s.l⟩] []) := by
  obtain ⟨d, hd⟩ : ∃ d, l[j]? = some d := ⟨l[j], List.getElem?_eq_getElem hj⟩
  obtain ⟨p0, p1⟩ := poolOf_get l j d hd
  have hr : (rrOf 0 l).getD j ⟨0, 0, 0, false⟩ = ⟨2 * j, d.key.length, d.val.length, d.lv⟩ := by rw [List.getD_eq_getElem?_getD, rrOf_get l 0 j d hd, Nat.zero_add]; rfl
  have hjb : j < 140737488355328 := by have := hb.2; rw [List.length_map] at this; omega
  have hk : keepB (l.map rkOf) j = decide (lastK (l.map rkOf) d.key = (j : Int)) := by
    unfold keepB
    rw [List.getD_eq_getElem?_getD, List.getElem?_map, hd]; rfl
  rw [hk, hr]
  refine spec_entry tbOk Tryd.func41 rfl Tryd.ntmps41 Tryd.results41 ?_
  unfold rrA
  (repeat (first | refine gos (k := ?_) | refine fun (_ : _ = false) => ?_ | refine ⟨fun (_ : true = true) => ?_, fun h => absurd h (by decide)⟩ | refine gtr (k := ?_)))
  (refine sts (k := ?_))
  refine draw_of (p := 7) tbOk hm [0, 1, 0, 4, 15, 0, 32, 127, 255] [⟨0, true, false, [8, 9, 10, 11, 12, 13, 14, 4]⟩, ⟨1, true, false, [9, 10, 11, 12, 13, 14, 4]⟩, ⟨2, true, false, [7, 8, 10, 11, 12, 13, 14, 4]⟩, ⟨3, true, false, [7, 8, 11, 12, 13, 14, 4]⟩, ⟨5, true, false, [7, 8, 9, 10, 11, 13, 14, 4]⟩, ⟨6, false, false, []⟩, ⟨4, true, false, [12, 13, 14, 4]⟩, ⟨7, false, false, []⟩, ⟨8, false, false, []⟩] (by kernel_rfl) ?_
  (repeat (first | refine gos (k := ?_) | refine fun (_ : _ = false) => ?_ | refine ⟨fun (_ : true = true) => ?_, fun h => absurd h (by decide)⟩ | refine gtr (k := ?_)))
  refine cmks (last_own (RRel.of l) hb p0 l.length d.key.length vr vw (rrOf_len l 0).symm rfl) Tryd.call28 (hrows := ⟨⟨fun _ => ⟨Nat.lt_succ_self 1, Nat.lt_succ_self 1, trivial, trivial⟩, rfl⟩, ⟨trivial, rfl⟩, trivial⟩) (hr2 := ⟨fun _ => ⟨rfl, rfl, trivial, trivial⟩, trivial, trivial⟩) 2 [2, 3] [0, 0] [] ?_
  (repeat (first | refine gos (k := ?_) | refine fun (_ : _ = false) => ?_ | refine ⟨fun (_ : true = true) => ?_, fun h => absurd h (by decide)⟩ | refine gtr (k := ?_)))
  rw [show (j : Int) + 1 - 1 = (j : Int) by omega]
  exact ⟨_, rfl, rfl, trivial⟩
theorem idx_vc (s : FlS) (a c : Nat) (l : List Rc) (hb : (∀ r ∈ l.map rkOf, r.key.length ≤ 140737488355328 ∧ r.val.length ≤ 140737488355328) ∧ (l.map rkOf).length ≤ 140737488355328) (i : Nat) (hi : i ≤ l.length) (h1 : ∀ j, j < i → keepB (l.map rkOf) j = true) (h2 : i < l.length → keepB (l.map rkOf) i = false) (e : Int) (b : Bool) (vt vx vr vw vb v0 v1 vs : Nat) :
   Spec Tryd.prog 56 [.own 7 vs 3 0 l.length, .clo 41 [.ref 0 vt 1 0 0, .ref 1 vx 5 0 0]] [⟨vt, .obj [.val (.int .i64 0)]⟩, ⟨vx, .obj [.ref 4 vb 3 0 0, .own 2 vr 3 0 l.length, .val (.slice none 0 0), .val (.int .i64 e), .val (.bool b)]⟩, ⟨vr, .row 3 (rrA 3 vw) ⟨0, 0, 0, false⟩ (rrOf 0 l)⟩, ⟨vw, .pool (poolOf l)⟩, ⟨vb, .obj [.ref 5 v0 6 0 0, .val (.int .i64 (a : Int)), .val (.int .i64 (c : Int))]⟩, ⟨v0, .obj [.own 6 v1 1 0 s.l.length, .val (.int .i64 (s.k : Int)), .val (.int .i64 s.ar), .val (.int .i64 s.pt), .val (.bool s.dd), .val (.int .i64 s.wr)]⟩, ⟨v1, .bytes s.l⟩, ⟨vs, .row 3 (rrA 3 vw) ⟨0, 0, 0, false⟩ (rrOf 0 l)⟩]
   (pms (.val (.int .i64 (if i < l.length then (i : Int) else -1))) [⟨vt, .obj [.val (.int .i64 (if i < l.length then (i : Int) + 1 else (i : Int)))]⟩, ⟨vx, .obj [.ref 4 vb 3 0 0, .own 2 vr 3 0 l.length, .val (.slice none 0 0), .val (.int .i64 e), .val (.bool b)]⟩, ⟨vr, .row 3 (rrA 3 vw) ⟨0, 0, 0, false⟩ (rrOf 0 l)⟩, ⟨vw, .pool (poolOf l)⟩, ⟨vb, .obj [.ref 5 v0 6 0 0, .val (.int .i64 (a : Int)), .val (.int .i64 (c : Int))]⟩, ⟨v0, .obj [.own 6 v1 1 0 s.l.length, .val (.int .i64 (s.k : Int)), .val (.int .i64 s.ar), .val (.int .i64 s.pt), .val (.bool s.dd), .val (.int .i64 s.wr)]⟩, ⟨v1, .bytes s.l⟩, ⟨vs, .row 3 (rrA 3 vw) ⟨0, 0, 0, false⟩ (rrOf 0 l)⟩] []) := by
  have hlb : l.length ≤ 140737488355328 := by have := hb.2; rw [List.length_map] at this; exact this
  have hrl : (rrOf 0 l).length = l.length := rrOf_len l 0
  refine spec_entry tbOk Tryd.func56 rfl Tryd.ntmps56 Tryd.results56 ?_
  (repeat (first | refine gos (k := ?_) | refine fun (_ : _ = false) => ?_ | refine ⟨fun (_ : true = true) => ?_, fun h => absurd h (by decide)⟩ | refine gtr (k := ?_)))
  (refine sts (k := ?_))
  conv => whnf
  refine loop_at (fun j : Nat => j ≤ i) (fun j => i - j) 8 [4, 5, 8, 9, 10, 11, 12, 13, 14, 15, 16, 17, 18] (fun j => [(8, .val (.int .i64 (j : Int)))]) (fun j => [(0, ⟨vt, .obj [.val (.int .i64 (j : Int))]⟩)]) 0 (Nat.zero_le _) ?_ ?_ ?_
  · ((try dsimp only [lpS, anyT, putT, setL]); (repeat (refine And.intro (by first | exact trivial | exact rfl) ?_)); (first | exact trivial | skip))
  · ((try dsimp only [lpS, deadH, putH, setL, Nat.reduceAdd, Nat.zero_add]); (repeat (refine And.intro (by first | exact rfl | exact trivial) ?_)); (first | exact trivial | skip))
  · rintro j v hj
    (dsimp only [lpS, anyT, putT, setL, deadH, putH, Nat.reduceAdd, Nat.zero_add])
    (repeat (first | refine gos (k := ?_) | refine fun (_ : _ = false) => ?_ | refine ⟨fun (_ : true = true) => ?_, fun h => absurd h (by decide)⟩ | refine gtr (k := ?_)))
    refine ⟨fun h => ?_, fun h => ?_⟩
    · have hlt : j < l.length := by have := of_decide_eq_true h; omega
      (repeat (first | refine gos (k := ?_) | refine fun (_ : _ = false) => ?_ | refine ⟨fun (_ : true = true) => ?_, fun h => absurd h (by decide)⟩ | refine gtr (k := ?_)))
      simp only [Int.toNat_natCast, Nat.zero_add]
      (repeat (first | refine gos (k := ?_) | refine fun (_ : _ = false) => ?_ | refine ⟨fun (_ : true = true) => ?_, fun h => absurd h (by decide)⟩ | refine gtr (k := ?_)))
      try ((conv => whnf); (refine And.intro ⟨rfl, ⟨rfl, by rw [hrl]; exact hlt⟩, Nat.le_of_ble_eq_true rfl⟩ ?_))
      (repeat (first | refine gos (k := ?_) | refine fun (_ : _ = false) => ?_ | refine ⟨fun (_ : true = true) => ?_, fun h => absurd h (by decide)⟩ | refine gtr (k := ?_)))
      refine cmks (pred_vc s a c l hb j hlt e b vt vx vr vw vb v0 v1) Tryd.call41 (hrows := ⟨⟨⟨trivial, trivial⟩, rfl⟩, ⟨⟨(by show 4 < 7; decide), (by show 2 < 7; decide), trivial, trivial, trivial, trivial⟩, rfl⟩, ⟨fun _ => ⟨(by show 3 < 7; decide), (by show 3 < 7; decide), trivial, trivial⟩, rfl⟩, ⟨trivial, rfl⟩, ⟨⟨(by show 5 < 7; decide), trivial, trivial, trivial⟩, rfl⟩, ⟨⟨(by show 6 < 7; decide), trivial, trivial, trivial, trivial, trivial, trivial⟩, rfl⟩, ⟨trivial, rfl⟩, trivial⟩) (hr2 := ⟨⟨trivial, trivial⟩, ⟨rfl, rfl, trivial, trivial, trivial, trivial⟩, fun _ => ⟨rfl, rfl, trivial, trivial⟩, trivial, ⟨rfl, trivial, trivial, trivial⟩, ⟨rfl, trivial, trivial, trivial, trivial, trivial, trivial⟩, trivial, trivial⟩) (hon := ⟨⟨(by show 3 < 7; decide), (by show 3 < 7; decide), trivial, trivial⟩, (by show 0 < 7; decide), (by show 1 < 7; decide), trivial⟩) 7 [0, 1, 2, 3, 4, 5, 6] [0, 0, 0, 0, 0, 0, 0] [] ?_
      by_cases hji : j < i
      · rw [h1 j hji]
        (repeat (first | refine gos (k := ?_) | refine fun (_ : _ = false) => ?_ | refine ⟨fun (_ : true = true) => ?_, fun h => absurd h (by decide)⟩ | refine gtr (k := ?_)))
        refine back_at (j + 1) hji (by show i - (j + 1) < i - j; omega) ?_ ?_
        · ((try dsimp only [lpS, anyT, putT, setL]); (repeat (refine And.intro (by first | exact trivial | exact rfl) ?_)); (first | exact trivial | skip))
        · ((try dsimp only [lpS, deadH, putH, setL, Nat.reduceAdd, Nat.zero_add]); (repeat (refine And.intro (by first | exact rfl | exact trivial) ?_)); (first | exact trivial | skip))
      · obtain rfl : j = i := by omega
        rw [h2 hlt]
        rw [if_pos hlt, if_pos hlt]
        (repeat (first | refine gos (k := ?_) | refine fun (_ : _ = false) => ?_ | refine ⟨fun (_ : true = true) => ?_, fun h => absurd h (by decide)⟩ | refine gtr (k := ?_)))
        exact ⟨_, rfl, rfl, trivial⟩
    · have hjl : l.length ≤ j := by have := of_decide_eq_false h; omega
      obtain rfl : j = i := by omega
      rw [if_neg (by omega), if_neg (by omega)]
      (repeat (first | refine gos (k := ?_) | refine fun (_ : _ = false) => ?_ | refine ⟨fun (_ : true = true) => ?_, fun h => absurd h (by decide)⟩ | refine gtr (k := ?_)))
      exact ⟨_, rfl, rfl, trivial⟩
end Go.Proofs.YtebilmfljoiaeaaDoor
