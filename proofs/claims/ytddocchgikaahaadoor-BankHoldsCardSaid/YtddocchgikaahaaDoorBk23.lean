/- Walks of lintellaw08: BankHolds. Conditions: none. -/
import Derived.Test.YtddocchgikaahaaDoorBk20
import Derived.Test.YtddocchgikaahaaDoorBp10
namespace Go.Proofs.YtddocchgikaahaaDoor
open Go.RowKit
set_option linter.unusedVariables false
set_option linter.unusedSimpArgs false
set_option maxRecDepth 100000
set_option maxHeartbeats 1500000
theorem sameR_want {rs : List Rr} {ps : List (List UInt8)} {la lb : List RK} (h : RRel rs ps la) (hb : (∀ r ∈ la, r.key.length ≤ 140737488355328 ∧ r.val.length ≤ 140737488355328) ∧ la.length ≤ 140737488355328) {q : Bool} (he : decide (la = lb) = q) (z na nb va wa vb : Nat) (hna : na = rs.length) (hnb : nb = lb.length) :
    Spec Tryd.prog 20 [.own 0 va 3 0 na, .own 2 vb 3 0 nb] [⟨va, .row 3 (rrA 1 wa) ⟨0, 0, 0, false⟩ rs⟩, ⟨wa, .pool ps⟩, ⟨vb, .row 3 (recA z) rk0 lb⟩]
      (pms (.val (.bool q)) [⟨va, .row 3 (rrA 1 wa) ⟨0, 0, 0, false⟩ rs⟩, ⟨wa, .pool ps⟩, ⟨vb, .row 3 (recA z) rk0 lb⟩] []) := by
  subst he
  exact spec_ro (sameR_vc 0 0 la lb hb.1 hb.2) trivial trivial (rows := [⟨va, .row 3 (rrA 1 wa) ⟨0, 0, 0, false⟩ rs⟩, ⟨wa, .pool ps⟩, ⟨vb, .row 3 (recA z) rk0 lb⟩]) (args := [.own 0 va 3 0 na, .own 2 vb 3 0 nb])
    (asL_cons (as_recs h rfl rfl hna) (asL_cons (as_slG rfl hnb hnb.symm fun i x y hx hy => by rw [hx] at hy; cases hy; exact asL_cons as_bs (asL_cons as_bs (asL_cons as_val asL_nil))) asL_nil))
structure HS where
  i : Nat
  s : FlS
  w : List RK
  m : Nat
theorem law_holds (l : List OpB) (ho : ∀ o ∈ l, OpBOk o) (z : Nat) (c : Int) (hc : 0 ≤ c ∧ c ≤ 255) : Spec Tryd.prog 3 [.sl z 5 (opB z) opB0 l, .val (.int .u8 c)] [] (pms (.val (.bool true)) [] []) := by
  obtain ⟨n, hn, hn1⟩ : ∃ n : Nat, 1 + c % 4 = (n : Int) ∧ (1 ≤ n ∧ n ≤ 4) := ⟨(1 + c % 4).toNat, by omega, by omega⟩
  have lies : Lies 768 128 1 n := ⟨by omega, by omega, by omega, by omega⟩
  obtain ⟨s1, s2, e1, e2, e3, e4, hB⟩ := hb_new n hn1
  have g0 : Goes 0 768 128 (FlS.new 6 128) := Goes.new 6 128 (by decide) (by decide)
  have hN := spec_new 6 128 (by decide) (by decide)
  generalize FlS.new 6 128 = S at e1 g0 hN
  have g1 : Goes (0 + n + 12) 768 128 s1 := by have := g0.format 1 n 7; rw [e1] at this; exact this
  have g2 : Goes (0 + n + 12 + 1) 768 128 s2 := by have := g1.prog (((1 : Nat) : Int) * (s1.k : Int) + 12) [254]; rw [e2] at this; exact this
  have g3 : Goes 20 768 128 s2 := g2.mono (by omega)
  refine spec_entry tbOk Tryd.func3 rfl Tryd.ntmps3 Tryd.results3 ?_
  (repeat (first | refine gos (k := ?_) | refine fun (_ : _ = false) => ?_ | refine ⟨fun (_ : true = true) => ?_, fun h => absurd h (by decide)⟩ | refine gtr (k := ?_)))
  refine ⟨fun h => ?_, fun h => ?_⟩
  · (repeat (first | refine gos (k := ?_) | refine fun (_ : _ = false) => ?_ | refine ⟨fun (_ : true = true) => ?_, fun h => absurd h (by decide)⟩ | refine gtr (k := ?_)))
    refine cmks (works_vc) Tryd.call9 0 [] [] [] ?_
    (repeat (first | refine gos (k := ?_) | refine fun (_ : _ = false) => ?_ | refine ⟨fun (_ : true = true) => ?_, fun h => absurd h (by decide)⟩ | refine gtr (k := ?_)))
    exact ⟨_, rfl, rfl, trivial⟩
  have hl : l.length ≤ 40 := by have := of_decide_eq_false h; omega
  (repeat (first | refine gos (k := ?_) | refine fun (_ : _ = false) => ?_ | refine ⟨fun (_ : true = true) => ?_, fun h => absurd h (by decide)⟩ | refine gtr (k := ?_)))
  refine cmks (hN) Tryd.call10 0 [0, 0, 0, 0, 0, 0, 0, 0, 0, 0, 0, 0, 0, 0, 0, 0, 0, 0, 0, 0, 0, 0, 0, 0, 29, 0, 0, 30] [0, 0, 0, 0, 0, 0, 0, 0, 0, 0, 0, 0, 0, 0, 0, 0, 0, 0, 0, 0, 0, 0, 0, 0, 1, 0, 0, 1] [27, 24] ?_
  (repeat (first | refine gos (k := ?_) | refine fun (_ : _ = false) => ?_ | refine ⟨fun (_ : true = true) => ?_, fun h => absurd h (by decide)⟩ | refine gtr (k := ?_)))
  rw [hn]
  refine cmks (at_vc S 1 n g0 lies (by omega) 2 3) Tryd.call11 2 [30, 29, 0, 0, 0, 0, 0, 0, 0, 0, 0, 0, 0, 0, 0, 0, 0, 0, 0, 0, 0, 0, 0, 0, 0, 0, 0, 0, 0, 0, 0, 0, 0, 0, 0, 0, 0, 0, 0, 0, 0, 0, 0, 0, 0, 31] [0, 0, 0, 0, 0, 0, 0, 0, 0, 0, 0, 0, 0, 0, 0, 0, 0, 0, 0, 0, 0, 0, 0, 0, 0, 0, 0, 0, 0, 0, 0, 0, 0, 0, 0, 0, 0, 0, 0, 0, 0, 0, 0, 0, 0, 1] [45] ?_
  (repeat (first | refine gos (k := ?_) | refine fun (_ : _ = false) => ?_ | refine ⟨fun (_ : true = true) => ?_, fun h => absurd h (by decide)⟩ | refine gtr (k := ?_)))
  refine gcl (k := ?_)
  refine cmks (format_vc S 1 n g0 (by decide) lies 7 (by decide) 2 2 3) Tryd.call12 3 [31, 30, 29] [0, 0, 0] [] ?_
  rw [e1]
  (repeat (first | refine gos (k := ?_) | refine fun (_ : _ = false) => ?_ | refine ⟨fun (_ : true = true) => ?_, fun h => absurd h (by decide)⟩ | refine gtr (k := ?_)))
  refine gcl (k := ?_)
  refine cmks (ready_vc s1 1 n g1 (by omega) lies 2 2 3) Tryd.call13 3 [31, 30, 29] [0, 0, 0] [] ?_
  rw [e2]
  (repeat (first | refine gos (k := ?_) | refine fun (_ : _ = false) => ?_ | refine ⟨fun (_ : true = true) => ?_, fun h => absurd h (by decide)⟩ | refine gtr (k := ?_)))
  refine cdet (room_vc s2 1 n (g3.bok lies) 2 2 3) Tryd.call14 [31, 30, 29] ?_
  rw [show ((n : Int) * (s2.k : Int) - 16) = ((n * 128 - 16 : Nat) : Int) by rw [e4]; omega]
  (repeat (first | refine gos (k := ?_) | refine fun (_ : _ = false) => ?_ | refine ⟨fun (_ : true = true) => ?_, fun h => absurd h (by decide)⟩ | refine gtr (k := ?_)))
  (refine sts (k := ?_))
  conv => whnf
  refine loop_le (leS_nil 92 1 (.row 3 (recA z) rk0 []) rfl (by decide) rfl (t' := [.sl z 5 (opB z) opB0 l, .any, .any, .any, .any, .ref 30 2 6 0 0, .any, .val (.int .i64 (n : Int)), .ref 31 2 3 0 0, .val (.int .i64 ((n * 128 - 16 : Nat) : Int)), .own 92 1 3 0 0, .val (.int .i64 0), .any, .any, .any, .any, .any, .any, .any, .any, .any, .any, .any, .any, .any, .any, .any, .any, .any, .any, .any, .any, .any, .any, .any, .any, .any, .any, .any, .any, .any, .any, .any, .any, .any, .any, .any, .any, .any, .any, .any, .any, .any, .any, .any, .any, .any, .any, .any, .any, .any, .any, .any, .any, .any, .any, .any, .any, .any, .any, .any, .any, .any, .any, .any, .any, .any, .any, .any, .any, .any, .any, .any, .any, .any, .any, .any, .any, .any, .any, .any, .any, .any, .any, .any, .any, .any, .any, .any, .any, .any, .any, .any, .any, .any, .any, .any, .any, .any, .any, .any, .any, .any, .any, .any, .any, .any, .any, .any, .any, .any, .any, .any, .any, .any, .any, .any, .any, .any, .any, .any, .any, .any, .any, .any, .any, .any, .any, .any, .any, .any, .any, .any, .any, .any, .any, .any, .any, .any, .any, .any, .any, .any, .any, .any, .any, .any, .any, .any, .any, .any, .any, .any, .any, .any, .any, .any, .any, .any, .any, .any, .any, .any, .any, .any, .any, .any, .any, .any, .any, .any, .any, .any, .any, .any, .any, .any]) ?_) ?_
  · simp [leTn, setD, setL, updH, evA, unA, getA, getL, constA, undefs, deads]
  dsimp only [setL]
  refine loop_at (fun y : HS => y.i ≤ l.length ∧ HB n y.s y.w y.m ∧ y.m ≤ n * 128 ∧ y.w.length ≤ y.i ∧ Goes (20 + y.i * 65804) 768 128 y.s) (fun y => l.length - y.i) 0 [4, 9, 10, 11, 12, 13, 14, 56, 57, 58, 59, 60, 61, 62, 63, 64, 65, 66, 67, 68, 69, 70, 71, 72, 73, 74, 75, 76, 77, 78, 79, 80, 81, 82, 83, 84, 85, 86, 87, 88, 89, 90, 91, 92, 93, 94, 95, 96, 97, 98, 99, 100, 101, 102, 103, 104, 105, 106, 107, 108, 109, 110, 111, 112, 113, 114, 115, 116, 117, 118, 119] (fun y => [(9, .val (.int .i64 (y.m : Int))), (10, .own 92 (y.w.length + 1) 3 0 y.w.length), (11, .val (.int .i64 (y.i : Int)))])
    (fun y => [(92, ⟨y.w.length + 1, .row 3 (recA z) rk0 y.w⟩), (30, ⟨2, .obj [.own 29 3 1 0 y.s.l.length, .val (.int .i64 (y.s.k : Int)), .val (.int .i64 y.s.ar), .val (.int .i64 y.s.pt), .val (.bool y.s.dd), .val (.int .i64 y.s.wr)]⟩), (29, ⟨3, .bytes y.s.l⟩)]) ⟨0, s2, [], n * 128 - 16⟩ ⟨Nat.zero_le _, hB, by simp only; omega, Nat.le_refl _, by simpa using g3⟩ ?_ ?_ ?_
  · ((try dsimp only [lpS, anyT, putT, setL]); (repeat (refine And.intro (by first | exact trivial | exact rfl) ?_)); (first | exact trivial | skip))
  · ((try dsimp only [lpS, deadH, putH, setL, Nat.reduceAdd, Nat.zero_add]); (repeat (refine And.intro (by first | exact rfl | exact trivial) ?_)); (first | exact trivial | skip))
  · rintro ⟨i, s, w, m⟩ v ⟨i1, i2, i3, i4, i5⟩
    simp only at i1 i2 i3 i4 i5
    (dsimp only [lpS, anyT, putT, setL, deadH, putH, Nat.reduceAdd, Nat.zero_add])
    (repeat (first | refine gos (k := ?_) | refine fun (_ : _ = false) => ?_ | refine ⟨fun (_ : true = true) => ?_, fun h => absurd h (by decide)⟩ | refine gtr (k := ?_)))
    refine ⟨fun h => ?_, fun h => ?_⟩
    · have hlt : i < l.length := by have := of_decide_eq_true h; omega
      have hoi : OpBOk (l.getD i opB0) := by rw [List.getD_eq_getElem?_getD, List.getElem?_eq_getElem hlt]; exact ho _ (List.getElem_mem hlt)
      have hok := hoi.key
      have hov := hoi.val
      have hi4 : i ≤ 40 := by omega
      (repeat (first | refine gos (k := ?_) | refine fun (_ : _ = false) => ?_ | refine ⟨fun (_ : true = true) => ?_, fun h => absurd h (by decide)⟩ | refine gtr (k := ?_)))
      simp only [Int.toNat_natCast]
      generalize l.getD i opB0 = o at hok hov
      (repeat (first | refine gos (k := ?_) | refine fun (_ : _ = false) => ?_ | refine ⟨fun (_ : true = true) => ?_, fun h => absurd h (by decide)⟩ | refine gtr (k := ?_)))
      refine cmks (twin8_vc z o.key hok) Tryd.call16 (hz := fun r hr => absurd hr (Nat.not_lt_zero r)) (had := ⟨⟨_, rfl, Nat.lt_succ_self _⟩, trivial⟩) 0 [0, 0, 0, 74] [0, 0, 0, (v 74 + 1)] [3] ?_
      (repeat (first | refine gos (k := ?_) | refine fun (_ : _ = false) => ?_ | refine ⟨fun (_ : true = true) => ?_, fun h => absurd h (by decide)⟩ | refine gtr (k := ?_)))
      refine cmks (twin8_vc z o.val hov) Tryd.call16 (hz := fun r hr => absurd hr (Nat.not_lt_zero r)) (had := ⟨⟨_, rfl, Nat.lt_succ_self _⟩, trivial⟩) 0 [0, 0, 0, 76] [0, 0, 0, (v 76 + 1)] [3] ?_
      (repeat (first | refine gos (k := ?_) | refine fun (_ : _ = false) => ?_ | refine ⟨fun (_ : true = true) => ?_, fun h => absurd h (by decide)⟩ | refine gtr (k := ?_)))
      refine cmks (add_own s 1 n i5 (by omega) lies o.key o.val o.key.length o.val.length rfl rfl (by omega) (by omega) 2 2 3 (2 + (v 74 + 1)) (2 + (v 76 + 1))) Tryd.call15 5 [31, 30, 29, 74, 76] [0, 0, 0, 0, 0] [] ?_
      have ga := i5.add 1 n o.key o.val
      rcases hb_add i2 o.key o.val with ⟨c1, c2⟩ | ⟨c1, c2, c3, c4⟩ | ⟨c1, c2, c3, s', c4, c5⟩
      · rw [c2]
        (repeat (first | refine gos (k := ?_) | refine fun (_ : _ = false) => ?_ | refine ⟨fun (_ : true = true) => ?_, fun h => absurd h (by decide)⟩ | refine gtr (k := ?_)))
        refine back_at ⟨i + 1, s, w, m⟩ ⟨hlt, i2, i3, by simp only; omega, i5.mono (by simp only; omega)⟩ (by show l.length - (i + 1) < l.length - i; omega) ?_ ?_
        · ((try dsimp only [lpS, anyT, putT, setL]); (repeat (refine And.intro (by first | exact trivial | exact rfl) ?_)); (first | exact trivial | skip))
        · ((try dsimp only [lpS, deadH, putH, setL, Nat.reduceAdd, Nat.zero_add]); (repeat (refine And.intro (by first | exact rfl | exact trivial) ?_)); (first | exact trivial | skip))
      · rw [c4]
        (repeat (first | refine gos (k := ?_) | refine fun (_ : _ = false) => ?_ | refine ⟨fun (_ : true = true) => ?_, fun h => absurd h (by decide)⟩ | refine gtr (k := ?_)))
        refine back_at ⟨i + 1, s, w, m⟩ ⟨hlt, i2, i3, by simp only; omega, i5.mono (by simp only; omega)⟩ (by show l.length - (i + 1) < l.length - i; omega) ?_ ?_
        · ((try dsimp only [lpS, anyT, putT, setL]); (repeat (refine And.intro (by first | exact trivial | exact rfl) ?_)); (first | exact trivial | skip))
        · ((try dsimp only [lpS, deadH, putH, setL, Nat.reduceAdd, Nat.zero_add]); (repeat (refine And.intro (by first | exact rfl | exact trivial) ?_)); (first | exact trivial | skip))
      · rw [c4]
        rw [c4] at ga
        (repeat (first | refine gos (k := ?_) | refine fun (_ : _ = false) => ?_ | refine ⟨fun (_ : true = true) => ?_, fun h => absurd h (by decide)⟩ | refine gtr (k := ?_)))
        refine cdet (need_vc (o.key.length : Int) (o.val.length : Int) (by omega) (by omega)) Tryd.call17 [] ?_
        (repeat (first | refine gos (k := ?_) | refine fun (_ : _ = false) => ?_ | refine ⟨fun (_ : true = true) => ?_, fun h => absurd h (by decide)⟩ | refine gtr (k := ?_)))
        rw [show ((m : Int) - (12 + (o.key.length : Int) + (o.val.length : Int))) = ((m - (12 + o.key.length + o.val.length) : Nat) : Int) by omega]
        (repeat (first | refine gos (k := ?_) | refine fun (_ : _ = false) => ?_ | refine ⟨fun (_ : true = true) => ?_, fun h => absurd h (by decide)⟩ | refine gtr (k := ?_)))
        refine ⟨RK, recA z, rk0, w ++ [⟨o.key, o.val, true⟩], ?_⟩
        conv => whnf
        refine And.intro ⟨rfl, ⟨rfl, rfl, Nat.le_refl _, fun q hq => (by (have hq0 : q = 0 := by simpa using hq); subst hq0; exact ⟨trivial, trivial, rfl, trivial⟩)⟩, rfl, rfl, rfl, rfl, .inr rfl, by (rw [List.map_append]; rfl), by (show (w ++ [(⟨o.key, o.val, true⟩ : RK)]).length * 56 ≤ _; rw [List.length_append]; show (w.length + 1) * 56 ≤ _; omega), by decide⟩ ?_
        have hwl : (w ++ [(⟨o.key, o.val, true⟩ : RK)]).length = w.length + 1 := by simp
        generalize hw2 : w ++ [(⟨o.key, o.val, true⟩ : RK)] = w2 at hwl c5
        clear c1 c2
        (repeat (first | refine gos (k := ?_) | refine fun (_ : _ = false) => ?_ | refine ⟨fun (_ : true = true) => ?_, fun h => absurd h (by decide)⟩ | refine gtr (k := ?_)))
        rw [← hwl]
        refine back_at ⟨i + 1, s', w2, m - (12 + o.key.length + o.val.length)⟩ ⟨hlt, c5, by simp only; omega, by simp only; omega, ga.mono (by simp only; omega)⟩ (by show l.length - (i + 1) < l.length - i; omega) ?_ ?_
        · ((try dsimp only [lpS, anyT, putT, setL]); (repeat (refine And.intro (by first | exact trivial | exact rfl) ?_)); (first | exact trivial | skip))
        · ((try dsimp only [lpS, deadH, putH, setL, Nat.reduceAdd, Nat.zero_add]); (repeat (refine And.intro (by first | exact rfl | exact trivial) ?_)); (first | exact trivial | skip))
    · have hi : i = l.length := by have := of_decide_eq_false h; omega
      have hf := hb_end hn1 i2
      obtain ⟨hd, ⟨k, hS, hkw⟩, hH, hlen, him, h140⟩ := hf
      have bk := look_bound i5 lies hS
      have hwl : w.length ≤ 40 := by omega
      clear hi hB g0 e1 e2 g1 g2 g3
      (repeat (first | refine gos (k := ?_) | refine fun (_ : _ = false) => ?_ | refine ⟨fun (_ : true = true) => ?_, fun h => absurd h (by decide)⟩ | refine gtr (k := ?_)))
      refine cmks (look_vc s 1 n i5 lies hd k _ true hS 2 2 3) Tryd.call18 (he := ⟨fun _ => ⟨rfl, rfl, trivial, trivial⟩, trivial, trivial⟩) 3 [31, 30, 29, 0, 0, 0, 0, 0, 0, 0, 0, 0, 122, 121] [0, 0, 0, 0, 0, 0, 0, 0, 0, 0, 0, 0, 1, 1] [12, 13] ?_
      (repeat (first | refine gos (k := ?_) | refine fun (_ : _ = false) => ?_ | refine ⟨fun (_ : true = true) => ?_, fun h => absurd h (by decide)⟩ | refine gtr (k := ?_)))
      refine cmks (bhead_vc s 1 n i5 lies 2 2 3) Tryd.call19 3 [31, 30, 29] [0, 0, 0] [] ?_
      rw [hH]
      (repeat (first | refine gos (k := ?_) | refine fun (_ : _ = false) => ?_ | refine ⟨fun (_ : true = true) => ?_, fun h => absurd h (by decide)⟩ | refine gtr (k := ?_)))
      refine gcl (k := ?_)
      refine cmks (sameR_want (RRel.of k) bk (decide_eq_true hkw) z k.length w.length (k.length + 2 + 1) 3 (w.length + 1) (by rw [rrOf_len]) rfl) Tryd.call20 (hrows := ⟨⟨fun _ => ⟨(by show 1 < 3; decide), (by show 1 < 3; decide), trivial, trivial⟩, rfl⟩, ⟨trivial, rfl⟩, ⟨fun _ => ⟨trivial, trivial, trivial, trivial⟩, rfl⟩, trivial⟩) (hr2 := ⟨fun _ => ⟨rfl, rfl, trivial, trivial⟩, trivial, fun _ => ⟨trivial, trivial, trivial, trivial⟩, trivial⟩) 3 [122, 121, 92] [0, 0, 0] [] ?_
      (repeat (first | refine gos (k := ?_) | refine fun (_ : _ = false) => ?_ | refine ⟨fun (_ : true = true) => ?_, fun h => absurd h (by decide)⟩ | refine gtr (k := ?_)))
      refine cmks (spec_image s (by omega) 2 3) Tryd.call21 2 [30, 29, 0, 0, 0, 0, 0, 0, 0, 0, 0, 157] [0, 0, 0, 0, 0, 0, 0, 0, 0, 0, 0, 1] [11] ?_
      (repeat (first | refine gos (k := ?_) | refine fun (_ : _ = false) => ?_ | refine ⟨fun (_ : true = true) => ?_, fun h => absurd h (by decide)⟩ | refine gtr (k := ?_)))
      rw [hlen]
      (repeat (first | refine gos (k := ?_) | refine fun (_ : _ = false) => ?_ | refine ⟨fun (_ : true = true) => ?_, fun h => absurd h (by decide)⟩ | refine gtr (k := ?_)))
      (refine sts (k := ?_))
      conv => whnf
      refine loop_at (fun j : Nat => j ≤ 768) (fun j => 768 - j) 0 [4, 21, 158, 159, 160, 161, 162, 163, 164, 165, 166, 167, 168, 169, 170, 171, 172, 173, 174, 175, 176, 177, 178, 179] (fun j => [(21, .val (.int .i64 (j : Int)))]) (fun j => []) 0 (Nat.zero_le _) ?_ ?_ ?_
      · ((try dsimp only [lpS, anyT, putT, setL]); (repeat (refine And.intro (by first | exact trivial | exact rfl) ?_)); (first | exact trivial | skip))
      · ((try dsimp only [lpS, deadH, putH, setL, Nat.reduceAdd, Nat.zero_add]); (repeat (refine And.intro (by first | exact rfl | exact trivial) ?_)); (first | exact trivial | skip))
      · rintro j v' hj
        (dsimp only [lpS, anyT, putT, setL, deadH, putH, Nat.reduceAdd, Nat.zero_add])
        (repeat (first | refine gos (k := ?_) | refine fun (_ : _ = false) => ?_ | refine ⟨fun (_ : true = true) => ?_, fun h => absurd h (by decide)⟩ | refine gtr (k := ?_)))
        refine ⟨fun h => ?_, fun h => ?_⟩
        · have hjlt : j < 768 := by have := of_decide_eq_true h; omega
          have hj255 := him j hjlt
          (repeat (first | refine gos (k := ?_) | refine fun (_ : _ = false) => ?_ | refine ⟨fun (_ : true = true) => ?_, fun h => absurd h (by decide)⟩ | refine gtr (k := ?_)))
          have hq : ((decide ((j : Int) < 128) || decide (128 * ((n : Int) + 1) ≤ (j : Int))) && !decide (((s.l.getD (0 + (j : Int).toNat) 0).toNat : Int) = 255)) = false := by
            rw [Int.toNat_natCast, Nat.zero_add]
            by_cases hjc : j < 128 ∨ 128 * (n + 1) ≤ j
            · rw [hj255 hjc]; simp
            · simp only [Bool.and_eq_false_iff, Bool.or_eq_false_iff, decide_eq_false_iff_not]
              left; omega
          rw [hq]
          refine ⟨fun h => absurd h (by decide), fun _ => ?_⟩
          (repeat (first | refine gos (k := ?_) | refine fun (_ : _ = false) => ?_ | refine ⟨fun (_ : true = true) => ?_, fun h => absurd h (by decide)⟩ | refine gtr (k := ?_)))
          refine back_at (j + 1) hjlt (by show 768 - (j + 1) < 768 - j; omega) ?_ ?_
          · ((try dsimp only [lpS, anyT, putT, setL]); (repeat (refine And.intro (by first | exact trivial | exact rfl) ?_)); (first | exact trivial | skip))
          · ((try dsimp only [lpS, deadH, putH, setL, Nat.reduceAdd, Nat.zero_add]); (repeat (refine And.intro (by first | exact rfl | exact trivial) ?_)); (first | exact trivial | skip))
        · (repeat (first | refine gos (k := ?_) | refine fun (_ : _ = false) => ?_ | refine ⟨fun (_ : true = true) => ?_, fun h => absurd h (by decide)⟩ | refine gtr (k := ?_)))
          refine cmks (same_off s.l [254] 140 1 0 1 (by omega) (by decide) (by omega) (decide_eq_true h140) 4 1) Tryd.call22 2 [157, 182] [0, 0] [] ?_
          (repeat (first | refine gos (k := ?_) | refine fun (_ : _ = false) => ?_ | refine ⟨fun (_ : true = true) => ?_, fun h => absurd h (by decide)⟩ | refine gtr (k := ?_)))
          refine cmks (works_vc) Tryd.call9 0 [] [] [] ?_
          (repeat (first | refine gos (k := ?_) | refine fun (_ : _ = false) => ?_ | refine ⟨fun (_ : true = true) => ?_, fun h => absurd h (by decide)⟩ | refine gtr (k := ?_)))
          exact ⟨_, rfl, rfl, trivial⟩
end Go.Proofs.YtddocchgikaahaaDoor
