/- Walks of lintellaw08: BankFalls. Conditions: none. -/
import Derived.Test.YtddocchgikaahaaDoorBk21
import Derived.Test.YtddocchgikaahaaDoorBp9
namespace Go.Proofs.YtddocchgikaahaaDoor
open Go.RowKit
set_option linter.unusedVariables false
set_option linter.unusedSimpArgs false
set_option maxRecDepth 100000
set_option maxHeartbeats 1500000
/-- records of a row, and a new one that the caller handed in -/
def mrA (q w z1 z2 : Nat) (key val : List UInt8) : Option Rr → List AV
  | some r => rrA q w r
  | none => [.bs z1 key, .bs z2 val, .val (.bool true)]
theorem as_more {rows : List Ent} {r v q w n z1 z2 : Nat} {key val : List UInt8} {d : Option Rr} {rs : List Rr} {ps : List (List UInt8)} {ls : List RK} (h : RRel rs ps ls) (he : getL rows r = some ⟨v, .row 3 (mrA q w z1 z2 key val) d (rs.map some ++ [none])⟩) (hp : getL rows q = some ⟨w, .pool ps⟩) (hn : n = rs.length + 1) : As rows (.own r v 3 0 n) (.sl 0 3 (recA 0) rk0 (ls ++ [⟨key, val, true⟩])) := by
  have hl := h.len
  refine as_slG he (by simp [hn]) (by simp [hn, hl]) fun i x y hx hy => ?_
  by_cases hi : i < rs.length
  · rw [List.getElem?_append_left (by simpa using hi), List.getElem?_map] at hx
    rw [List.getElem?_append_left (by omega)] at hy
    obtain ⟨r0, h0, rfl⟩ := Option.map_eq_some_iff.1 hx
    obtain ⟨q1, q2, q3, q4, q5⟩ := h.el i r0 y h0 hy
    have a1 := as_pl (off := 0) (n := y.key.length) hp q1 (by omega)
    have a2 := as_pl (off := 0) (n := y.val.length) hp q3 (by omega)
    rw [whole] at a1 a2
    show AsL rows (rrA q w r0) (recA 0 y)
    unfold rrA recA
    rw [q2, q4, q5]
    exact asL_cons a1 (asL_cons a2 (asL_cons as_val asL_nil))
  · rw [List.getElem?_append_right (by simp; omega)] at hx
    rw [List.getElem?_append_right (by omega)] at hy
    have hi2 : i - (rs.map some).length = 0 := by have := (List.getElem?_eq_some_iff.1 hx).1; simpa using this
    have hi3 : i - ls.length = 0 := by rw [← hi2]; simp [hl]
    rw [hi2] at hx
    rw [hi3] at hy
    cases hx; cases hy
    exact asL_cons as_bs (asL_cons as_bs (asL_cons as_val asL_nil))
theorem sameR_more {rs rs' : List Rr} {ps ps' : List (List UInt8)} {la lb : List RK} (h : RRel rs ps la) (h' : RRel rs' ps' lb) (hb : (∀ r ∈ la, r.key.length ≤ 140737488355328 ∧ r.val.length ≤ 140737488355328) ∧ la.length ≤ 140737488355328) {z1 z2 : Nat} {key val : List UInt8} {d : Option Rr} {q : Bool} (he : decide (la = lb ++ [⟨key, val, true⟩]) = q) (na nb va wa vb wb : Nat) (hna : na = rs.length) (hnb : nb = rs'.length + 1) :
    Spec Tryd.prog 20 [.own 0 va 3 0 na, .own 2 vb 3 0 nb] [⟨va, .row 3 (rrA 1 wa) ⟨0, 0, 0, false⟩ rs⟩, ⟨wa, .pool ps⟩, ⟨vb, .row 3 (mrA 3 wb z1 z2 key val) d (rs'.map some ++ [none])⟩, ⟨wb, .pool ps'⟩]
      (pms (.val (.bool q)) [⟨va, .row 3 (rrA 1 wa) ⟨0, 0, 0, false⟩ rs⟩, ⟨wa, .pool ps⟩, ⟨vb, .row 3 (mrA 3 wb z1 z2 key val) d (rs'.map some ++ [none])⟩, ⟨wb, .pool ps'⟩] []) := by
  subst he
  exact spec_ro (sameR_vc 0 0 la (lb ++ [⟨key, val, true⟩]) hb.1 hb.2) trivial trivial (rows := [⟨va, .row 3 (rrA 1 wa) ⟨0, 0, 0, false⟩ rs⟩, ⟨wa, .pool ps⟩, ⟨vb, .row 3 (mrA 3 wb z1 z2 key val) d (rs'.map some ++ [none])⟩, ⟨wb, .pool ps'⟩]) (args := [.own 0 va 3 0 na, .own 2 vb 3 0 nb])
    (asL_cons (as_recs h rfl rfl hna) (asL_cons (as_more h' rfl rfl hnb) asL_nil))
theorem law_falls (l : List OpB) (ho : ∀ o ∈ l, OpBOk o) (z z1 z2 : Nat) (key val : List UInt8) (hk : key.length ≤ 140737488355328) (hv : val.length ≤ 140737488355328) (n : Int) (hn : I64 n) : Spec Tryd.prog 4 [.sl z 5 (opB z) opB0 l, .bs z1 key, .bs z2 val, .val (.int .i64 n)] [] (pms (.val (.bool true)) [] []) := by
  obtain ⟨s0, hB0, hG0, hbeg⟩ := begun_ex
  refine spec_entry tbOk Tryd.func4 rfl Tryd.ntmps4 Tryd.results4 ?_
  (repeat (first | refine gos (k := ?_) | refine fun (_ : _ = false) => ?_ | refine ⟨fun (_ : true = true) => ?_, fun h => absurd h (by decide)⟩ | refine gtr (k := ?_)))
  refine ⟨fun h => ?_, fun h => ?_⟩
  · (repeat (first | refine gos (k := ?_) | refine fun (_ : _ = false) => ?_ | refine ⟨fun (_ : true = true) => ?_, fun h => absurd h (by decide)⟩ | refine gtr (k := ?_)))
    refine cmks (works_vc) Tryd.call9 0 [] [] [] ?_
    (repeat (first | refine gos (k := ?_) | refine fun (_ : _ = false) => ?_ | refine ⟨fun (_ : true = true) => ?_, fun h => absurd h (by decide)⟩ | refine gtr (k := ?_)))
    exact ⟨_, rfl, rfl, trivial⟩
  have hl : l.length ≤ 20 := by simp at h; omega
  have hb := hbeg l hl ho z
  have gl := bg_goes hG0 l l.length
  (repeat (first | refine gos (k := ?_) | refine fun (_ : _ = false) => ?_ | refine ⟨fun (_ : true = true) => ?_, fun h => absurd h (by decide)⟩ | refine gtr (k := ?_)))
  by_cases hE : bgE s0 l l.length
  · have hB := bg_BG hB0 l l.length hE
    have hy := spec_yes hb hE
    generalize bgS s0 l l.length = s at hy gl hB
    unfold fRow at hy
    refine cmks (hy) Tryd.call23 (hon := ⟨fun _ => ⟨trivial, trivial, trivial, trivial, trivial, trivial⟩, trivial⟩) 0 [0, 0, 0, 0, 0, 0, 0, 0, 0, 0, 0, 0, 30, 29, 0, 0, 0, 0, 0, 31] [0, 0, 0, 0, 0, 0, 0, 0, 0, 0, 0, 0, 1, 1, 0, 0, 0, 0, 0, 1] [12, 13, 19] ?_
    (repeat (first | refine gos (k := ?_) | refine fun (_ : _ = false) => ?_ | refine ⟨fun (_ : true = true) => ?_, fun h => absurd h (by decide)⟩ | refine gtr (k := ?_)))
    have hGl : s.l.length = 2048 := gl.l
    obtain ⟨k, s1, hS, hd, ha, hC⟩ := falls_law hB key val (N := 1 + max n 0 % 2400) (by omega)
    (
                                        refine cmks (look_vc s 0 8 gl lies8 hd k _ true hS 3 3 4) Tryd.call18 (he := ⟨fun _ => ⟨rfl, rfl, trivial, trivial⟩, trivial, trivial⟩) 3 [31, 30, 29, 0, 0, 0, 0, 0, 0, 0, 0, 0, 48, 47] [0, 0, 0, 0, 0, 0, 0, 0, 0, 0, 0, 0, 1, 1] [12, 13] ?_)
    have bk := look_bound gl lies8 hS
    have bf := look_few gl lies8 hS
    (repeat (first | refine gos (k := ?_) | refine fun (_ : _ = false) => ?_ | refine ⟨fun (_ : true = true) => ?_, fun h => absurd h (by decide)⟩ | refine gtr (k := ?_)))
    rw [if_pos rfl]
    obtain ⟨m, hm, hm0, hm1⟩ : ∃ m, max n 0 = m ∧ 0 ≤ m ∧ m ≤ 9223372036854775807 := ⟨_, rfl, by omega, by unfold I64 at hn; omega⟩
    rw [hm]
    rw [hm] at ha
    (repeat (first | refine gos (k := ?_) | refine fun (_ : _ = false) => ?_ | refine ⟨fun (_ : true = true) => ?_, fun h => absurd h (by decide)⟩ | refine gtr (k := ?_)))
    obtain ⟨q, hq, hq0⟩ : ∃ q, m % 2400 = q ∧ 0 ≤ q ∧ q < 2400 := ⟨_, rfl, by omega⟩
    rw [hq]
    rw [hq] at ha
    (repeat (first | refine gos (k := ?_) | refine fun (_ : _ = false) => ?_ | refine ⟨fun (_ : true = true) => ?_, fun h => absurd h (by decide)⟩ | refine gtr (k := ?_)))
    refine gcl (k := ?_)
    have ga := gl.arm (1 + q) 0 (by unfold I64; omega) (by unfold I64; omega)
    rw [ha] at ga
    refine cdet (spec_arm s (1 + q) 0 (by unfold I64; omega) (by unfold I64; omega) 3 4) Tryd.call24 [30, 29] ?_
    rw [ha]
    (repeat (first | refine gos (k := ?_) | refine fun (_ : _ = false) => ?_ | refine ⟨fun (_ : true = true) => ?_, fun h => absurd h (by decide)⟩ | refine gtr (k := ?_)))
    refine cmks (twin8_vc z1 key hk) Tryd.call16 0 [0, 0, 0, 69] [0, 0, 0, 1] [3] ?_
    (repeat (first | refine gos (k := ?_) | refine fun (_ : _ = false) => ?_ | refine ⟨fun (_ : true = true) => ?_, fun h => absurd h (by decide)⟩ | refine gtr (k := ?_)))
    refine cmks (twin8_vc z2 val hv) Tryd.call16 0 [0, 0, 0, 71] [0, 0, 0, 1] [3] ?_
    (repeat (first | refine gos (k := ?_) | refine fun (_ : _ = false) => ?_ | refine ⟨fun (_ : true = true) => ?_, fun h => absurd h (by decide)⟩ | refine gtr (k := ?_)))
    refine cmks (add_own s1 0 8 ga (by omega) lies8 key val key.length val.length rfl rfl (by omega) (by omega) 3 3 4 3 3) Tryd.call15 5 [31, 30, 29, 69, 71] [0, 0, 0, 0, 0] [] ?_
    have gd := ga.add 0 8 key val
    rcases hC with ⟨e, he, c1, c2, c3, c4⟩ | ⟨s2, k2, c1, c2, c3, c4, c5⟩ | ⟨s2, s3, c1, c2, c3, c4⟩
    · rw [c1]
      (repeat (first | refine gos (k := ?_) | refine fun (_ : _ = false) => ?_ | refine ⟨fun (_ : true = true) => ?_, fun h => absurd h (by decide)⟩ | refine gtr (k := ?_)))
      refine cdet (spec_on_e s1 s1 12 c2 3 4) Tryd.call25 [30, 29] ?_
      (repeat (first | refine gos (k := ?_) | refine fun (_ : _ = false) => ?_ | refine ⟨fun (_ : true = true) => ?_, fun h => absurd h (by decide)⟩ | refine gtr (k := ?_)))
      (
                                        refine cmks (look_vc s1 0 8 ga lies8 c3 k _ true c4 3 3 4) Tryd.call18 (he := ⟨fun _ => ⟨rfl, rfl, trivial, trivial⟩, trivial, trivial⟩) 3 [31, 30, 29, 0, 0, 0, 0, 0, 0, 0, 0, 0, 77, 76] [0, 0, 0, 0, 0, 0, 0, 0, 0, 0, 0, 0, 1, 1] [12, 13] ?_)
      (repeat (first | refine gos (k := ?_) | refine fun (_ : _ = false) => ?_ | refine ⟨fun (_ : true = true) => ?_, fun h => absurd h (by decide)⟩ | refine gtr (k := ?_)))
      rcases he with rfl | rfl
      · (repeat (first | refine gos (k := ?_) | refine fun (_ : _ = false) => ?_ | refine ⟨fun (_ : true = true) => ?_, fun h => absurd h (by decide)⟩ | refine gtr (k := ?_)))
        (
                                        refine cmks (sameR_is (RRel.of k) (RRel.of k) bk (decide_eq_true rfl) k.length k.length (k.length + 2 + 1) 3 (k.length + 2 + 1) 3 (by simp [rrOf_len]) (by simp [rrOf_len])) Tryd.call20 (hrows := ⟨⟨fun _ => ⟨(by show 1 < 4; decide), (by show 1 < 4; decide), trivial, trivial⟩, rfl⟩, ⟨trivial, rfl⟩, ⟨fun _ => ⟨(by show 3 < 4; decide), (by show 3 < 4; decide), trivial, trivial⟩, rfl⟩, ⟨trivial, rfl⟩, trivial⟩) (hr2 := ⟨fun _ => ⟨rfl, rfl, trivial, trivial⟩, trivial, fun _ => ⟨rfl, rfl, trivial, trivial⟩, trivial, trivial⟩) 4 [48, 47, 77, 76] [0, 0, 0, 0] [] ?_)
        (
                                        (repeat (first | refine gos (k := ?_) | refine fun (_ : _ = false) => ?_ | refine ⟨fun (_ : true = true) => ?_, fun h => absurd h (by decide)⟩ | refine gtr (k := ?_)))
                                        refine cmks (works_vc) Tryd.call9 0 [] [] [] ?_
                                        (repeat (first | refine gos (k := ?_) | refine fun (_ : _ = false) => ?_ | refine ⟨fun (_ : true = true) => ?_, fun h => absurd h (by decide)⟩ | refine gtr (k := ?_)))
                                        exact ⟨_, rfl, rfl, trivial⟩)
      · (repeat (first | refine gos (k := ?_) | refine fun (_ : _ = false) => ?_ | refine ⟨fun (_ : true = true) => ?_, fun h => absurd h (by decide)⟩ | refine gtr (k := ?_)))
        (
                                        refine cmks (sameR_is (RRel.of k) (RRel.of k) bk (decide_eq_true rfl) k.length k.length (k.length + 2 + 1) 3 (k.length + 2 + 1) 3 (by simp [rrOf_len]) (by simp [rrOf_len])) Tryd.call20 (hrows := ⟨⟨fun _ => ⟨(by show 1 < 4; decide), (by show 1 < 4; decide), trivial, trivial⟩, rfl⟩, ⟨trivial, rfl⟩, ⟨fun _ => ⟨(by show 3 < 4; decide), (by show 3 < 4; decide), trivial, trivial⟩, rfl⟩, ⟨trivial, rfl⟩, trivial⟩) (hr2 := ⟨fun _ => ⟨rfl, rfl, trivial, trivial⟩, trivial, fun _ => ⟨rfl, rfl, trivial, trivial⟩, trivial, trivial⟩) 4 [48, 47, 77, 76] [0, 0, 0, 0] [] ?_)
        (
                                        (repeat (first | refine gos (k := ?_) | refine fun (_ : _ = false) => ?_ | refine ⟨fun (_ : true = true) => ?_, fun h => absurd h (by decide)⟩ | refine gtr (k := ?_)))
                                        refine cmks (works_vc) Tryd.call9 0 [] [] [] ?_
                                        (repeat (first | refine gos (k := ?_) | refine fun (_ : _ = false) => ?_ | refine ⟨fun (_ : true = true) => ?_, fun h => absurd h (by decide)⟩ | refine gtr (k := ?_)))
                                        exact ⟨_, rfl, rfl, trivial⟩)
    · rw [c1]
      rw [c1] at gd
      (repeat (first | refine gos (k := ?_) | refine fun (_ : _ = false) => ?_ | refine ⟨fun (_ : true = true) => ?_, fun h => absurd h (by decide)⟩ | refine gtr (k := ?_)))
      refine cdet (spec_on_e s2 s2 12 c2 3 4) Tryd.call25 [30, 29] ?_
      (repeat (first | refine gos (k := ?_) | refine fun (_ : _ = false) => ?_ | refine ⟨fun (_ : true = true) => ?_, fun h => absurd h (by decide)⟩ | refine gtr (k := ?_)))
      (
                                        refine cmks (look_vc s2 0 8 gd lies8 c3 k2 _ true c4 3 3 4) Tryd.call18 (he := ⟨fun _ => ⟨rfl, rfl, trivial, trivial⟩, trivial, trivial⟩) 3 [31, 30, 29, 0, 0, 0, 0, 0, 0, 0, 0, 0, 77, 76] [0, 0, 0, 0, 0, 0, 0, 0, 0, 0, 0, 0, 1, 1] [12, 13] ?_)
      (repeat (first | refine gos (k := ?_) | refine fun (_ : _ = false) => ?_ | refine ⟨fun (_ : true = true) => ?_, fun h => absurd h (by decide)⟩ | refine gtr (k := ?_)))
      (
                                        (repeat (first | refine gos (k := ?_) | refine fun (_ : _ = false) => ?_ | refine ⟨fun (_ : true = true) => ?_, fun h => absurd h (by decide)⟩ | refine gtr (k := ?_)))
                                        refine ⟨Rr, rrA 47 3, ⟨0, 0, 0, false⟩, rrOf 0 k, ?_⟩
                                        conv => whnf
                                        refine And.intro ⟨rfl, ⟨rfl, rfl, by rw [rrOf_len]; omega, fun _ _ => ⟨rfl, rfl, rfl, trivial⟩⟩, rfl, rfl, rfl, rfl, .inr rfl, by (show List.map _ (List.take k.length (List.drop 0 (rrOf 0 k))) = _; rw [List.drop_zero, List.take_of_length_le (by rw [rrOf_len]; omega)]; rfl), by (show (rrOf 0 k).length * 56 ≤ _; rw [rrOf_len]; omega), by decide⟩ ?_
                                        (repeat (first | refine gos (k := ?_) | refine fun (_ : _ = false) => ?_ | refine ⟨fun (_ : true = true) => ?_, fun h => absurd h (by decide)⟩ | refine gtr (k := ?_)))
                                        refine ⟨Option Rr, mrA 47 3 z1 z2 key val, none, (rrOf 0 k).map some ++ [none], ?_⟩
                                        conv => whnf
                                        refine And.intro ⟨rfl, ⟨rfl, rfl, Nat.le_refl _, fun q hq => (by (have hq0 : q = 0 := by simpa using hq); subst hq0; exact ⟨trivial, trivial, rfl, trivial⟩)⟩, rfl, rfl, rfl, rfl, .inr rfl, by (rw [List.map_append, List.map_map]; rfl), by (show ((rrOf 0 k).map some ++ [none]).length * 56 ≤ _; rw [List.length_append, List.length_map, rrOf_len]; show (k.length + 1) * 56 ≤ _; omega), by decide⟩ ?_
                                        (repeat (first | refine gos (k := ?_) | refine fun (_ : _ = false) => ?_ | refine ⟨fun (_ : true = true) => ?_, fun h => absurd h (by decide)⟩ | refine gtr (k := ?_))))
      have bk2 := look_bound gd lies8 c4
      (
                                        refine cmks (sameR_more (RRel.of k2) (RRel.of k) bk2 (decide_eq_true (by rw [c5])) k2.length ((rrOf 0 k).map some ++ [none]).length (k2.length + 2 + 1) 3 3 3 (by simp [rrOf_len]) (by simp [rrOf_len])) Tryd.call20 (hrows := ⟨⟨fun _ => ⟨(by show 1 < 4; decide), (by show 1 < 4; decide), trivial, trivial⟩, rfl⟩, ⟨trivial, rfl⟩, ⟨fun x => (by cases x; exact ⟨trivial, trivial, trivial, trivial⟩; exact ⟨(by show 3 < 4; decide), (by show 3 < 4; decide), trivial, trivial⟩), congrArg (fun f => some (⟨3, .row 3 f none ((rrOf 0 k).map some ++ [none])⟩ : Ent)) (funext fun x => (by cases x <;> rfl))⟩, ⟨trivial, rfl⟩, trivial⟩) (hr2 := ⟨fun _ => ⟨rfl, rfl, trivial, trivial⟩, trivial, fun x => (by cases x; exact ⟨trivial, trivial, trivial, trivial⟩; exact ⟨rfl, rfl, trivial, trivial⟩), trivial, trivial⟩) 4 [77, 76, 102, 47] [0, 0, 0, 0] [] ?_)
      (
                                        (repeat (first | refine gos (k := ?_) | refine fun (_ : _ = false) => ?_ | refine ⟨fun (_ : true = true) => ?_, fun h => absurd h (by decide)⟩ | refine gtr (k := ?_)))
                                        refine cmks (works_vc) Tryd.call9 0 [] [] [] ?_
                                        (repeat (first | refine gos (k := ?_) | refine fun (_ : _ = false) => ?_ | refine ⟨fun (_ : true = true) => ?_, fun h => absurd h (by decide)⟩ | refine gtr (k := ?_)))
                                        exact ⟨_, rfl, rfl, trivial⟩)
    · rw [c1]
      rw [c1] at gd
      have go := gd.on
      rw [c2] at go
      (repeat (first | refine gos (k := ?_) | refine fun (_ : _ = false) => ?_ | refine ⟨fun (_ : true = true) => ?_, fun h => absurd h (by decide)⟩ | refine gtr (k := ?_)))
      refine cdet (spec_on_e s2 s3 0 c2 3 4) Tryd.call25 [30, 29] ?_
      (repeat (first | refine gos (k := ?_) | refine fun (_ : _ = false) => ?_ | refine ⟨fun (_ : true = true) => ?_, fun h => absurd h (by decide)⟩ | refine gtr (k := ?_)))
      (
                                        refine cmks (look_vc s3 0 8 go lies8 c3 k _ (s3.scan 0 8).2.2 (by rw [← c4]) 3 3 4) Tryd.call18 (he := ⟨fun _ => ⟨rfl, rfl, trivial, trivial⟩, trivial, trivial⟩) 3 [31, 30, 29, 0, 0, 0, 0, 0, 0, 0, 0, 0, 77, 76] [0, 0, 0, 0, 0, 0, 0, 0, 0, 0, 0, 0, 1, 1] [12, 13] ?_)
      (
                                        (repeat (first | refine gos (k := ?_) | refine fun (_ : _ = false) => ?_ | refine ⟨fun (_ : true = true) => ?_, fun h => absurd h (by decide)⟩ | refine gtr (k := ?_)))
                                        refine ⟨Rr, rrA 47 3, ⟨0, 0, 0, false⟩, rrOf 0 k, ?_⟩
                                        conv => whnf
                                        refine And.intro ⟨rfl, ⟨rfl, rfl, by rw [rrOf_len]; omega, fun _ _ => ⟨rfl, rfl, rfl, trivial⟩⟩, rfl, rfl, rfl, rfl, .inr rfl, by (show List.map _ (List.take k.length (List.drop 0 (rrOf 0 k))) = _; rw [List.drop_zero, List.take_of_length_le (by rw [rrOf_len]; omega)]; rfl), by (show (rrOf 0 k).length * 56 ≤ _; rw [rrOf_len]; omega), by decide⟩ ?_
                                        (repeat (first | refine gos (k := ?_) | refine fun (_ : _ = false) => ?_ | refine ⟨fun (_ : true = true) => ?_, fun h => absurd h (by decide)⟩ | refine gtr (k := ?_)))
                                        refine ⟨Option Rr, mrA 47 3 z1 z2 key val, none, (rrOf 0 k).map some ++ [none], ?_⟩
                                        conv => whnf
                                        refine And.intro ⟨rfl, ⟨rfl, rfl, Nat.le_refl _, fun q hq => (by (have hq0 : q = 0 := by simpa using hq); subst hq0; exact ⟨trivial, trivial, rfl, trivial⟩)⟩, rfl, rfl, rfl, rfl, .inr rfl, by (rw [List.map_append, List.map_map]; rfl), by (show ((rrOf 0 k).map some ++ [none]).length * 56 ≤ _; rw [List.length_append, List.length_map, rrOf_len]; show (k.length + 1) * 56 ≤ _; omega), by decide⟩ ?_
                                        (repeat (first | refine gos (k := ?_) | refine fun (_ : _ = false) => ?_ | refine ⟨fun (_ : true = true) => ?_, fun h => absurd h (by decide)⟩ | refine gtr (k := ?_))))
      (
                                        refine cmks (sameR_is (RRel.of k) (RRel.of k) bk (decide_eq_true rfl) k.length k.length (k.length + 2 + 1) 3 (k.length + 2 + 1) 3 (by simp [rrOf_len]) (by simp [rrOf_len])) Tryd.call20 (hrows := ⟨⟨fun _ => ⟨(by show 1 < 4; decide), (by show 1 < 4; decide), trivial, trivial⟩, rfl⟩, ⟨trivial, rfl⟩, ⟨fun _ => ⟨(by show 3 < 4; decide), (by show 3 < 4; decide), trivial, trivial⟩, rfl⟩, ⟨trivial, rfl⟩, trivial⟩) (hr2 := ⟨fun _ => ⟨rfl, rfl, trivial, trivial⟩, trivial, fun _ => ⟨rfl, rfl, trivial, trivial⟩, trivial, trivial⟩) 4 [77, 76, 48, 47] [0, 0, 0, 0] [] ?_)
      (repeat (first | refine gos (k := ?_) | refine fun (_ : _ = false) => ?_ | refine ⟨fun (_ : true = true) => ?_, fun h => absurd h (by decide)⟩ | refine gtr (k := ?_)))
      (repeat (first | refine gos (k := ?_) | refine fun (_ : _ = false) => ?_ | refine ⟨fun (_ : true = true) => ?_, fun h => absurd h (by decide)⟩ | refine gtr (k := ?_)))
      intro _
      (
                                        (repeat (first | refine gos (k := ?_) | refine fun (_ : _ = false) => ?_ | refine ⟨fun (_ : true = true) => ?_, fun h => absurd h (by decide)⟩ | refine gtr (k := ?_)))
                                        refine cmks (works_vc) Tryd.call9 0 [] [] [] ?_
                                        (repeat (first | refine gos (k := ?_) | refine fun (_ : _ = false) => ?_ | refine ⟨fun (_ : true = true) => ?_, fun h => absurd h (by decide)⟩ | refine gtr (k := ?_)))
                                        exact ⟨_, rfl, rfl, trivial⟩)
  · obtain ⟨j, hy⟩ := spec_no hb hE
    generalize bgS s0 l j = s at hy
    unfold fRow at hy
    refine cmks (hy) Tryd.call23 (hon := ⟨fun _ => ⟨trivial, trivial, trivial, trivial, trivial, trivial⟩, trivial⟩) 0 [0, 0, 0, 0, 0, 0, 0, 0, 0, 0, 0, 0, 30, 29] [0, 0, 0, 0, 0, 0, 0, 0, 0, 0, 0, 0, 1, 1] [12, 13] ?_
    (repeat (first | refine gos (k := ?_) | refine fun (_ : _ = false) => ?_ | refine ⟨fun (_ : true = true) => ?_, fun h => absurd h (by decide)⟩ | refine gtr (k := ?_)))
    refine cmks (works_vc) Tryd.call9 0 [] [] [] ?_
    (repeat (first | refine gos (k := ?_) | refine fun (_ : _ = false) => ?_ | refine ⟨fun (_ : true = true) => ?_, fun h => absurd h (by decide)⟩ | refine gtr (k := ?_)))
    exact ⟨_, rfl, rfl, trivial⟩
end Go.Proofs.YtddocchgikaahaaDoor
