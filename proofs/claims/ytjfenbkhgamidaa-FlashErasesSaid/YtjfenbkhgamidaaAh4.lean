/- The walk of FlashErases. Conditions: none. -/
import Derived.Test.YtjfenbkhgamidaaAh3
namespace Go.Proofs.Ytjfenbkhgamidaa
open Go.RowKit
set_option linter.unusedVariables false
set_option linter.unusedSimpArgs false
set_option maxRecDepth 100000
set_option maxHeartbeats 4000000
theorem op_on (n : Nat) (a : OpR) : onAs (· < n) (opA a) := by simp [opA, onAs, onA]
theorem fillN_at (c : List UInt8) (a : Nat) : ∀ (n i : Nat), i < c.length → (fillN c a n).getD i 0 = if a ≤ i ∧ i < a + n then 255 else c.getD i 0
  | 0, i, h => by rw [fillN, if_neg (by omega)]
  | n + 1, i, h => by
    have hlen := fillN_length c a n
    rw [fillN, List.getD_eq_getElem?_getD, List.getElem?_set]
    by_cases q : a + n = i
    · rw [if_pos q, if_pos (by omega), if_pos (by omega)]; rfl
    · rw [if_neg q, ← List.getD_eq_getElem?_getD, fillN_at c a n i h]
      by_cases q2 : a ≤ i ∧ i < a + n
      · rw [if_pos q2, if_pos (by omega)]
      · rw [if_neg q2, if_neg (by omega)]
theorem erase_in (t : FS) (x y : Nat) (hl : t.l.length = x * y) (hk : t.k = y) (hy : 0 < y) (hd : t.dd = false) (sec : Int) (h : 0 ≤ sec ∧ sec < x) :
    (t.erase sec).1 = (if t.goes then 6 else 0) ∧ (t.erase sec).2.dd = t.goes ∧ (t.erase sec).2.l = fillN t.l (sec.toNat * y) (if t.goes then (min t.pt y).toNat else y) := by
  have hq : (t.l.length : Int) / (t.k : Int) = x := by
    rw [hl, hk]; push_cast; exact Int.mul_ediv_cancel _ (by omega)
  unfold FS.erase
  rw [hd, if_neg (by decide), hq, if_pos h]
  refine ⟨rfl, rfl, ?_⟩
  simp only [hk]
  split <;> rfl
theorem erase_out (t : FS) (x y : Nat) (hl : t.l.length = x * y) (hk : t.k = y) (hy : 0 < y) (hd : t.dd = false) (sec : Int) (h : ¬ (0 ≤ sec ∧ sec < x)) : t.erase sec = (1, t) := by
  have hq : (t.l.length : Int) / (t.k : Int) = x := by
    rw [hl, hk]; push_cast; exact Int.mul_ediv_cancel _ (by omega)
  unfold FS.erase
  rw [hd, if_neg (by decide), hq, if_neg h]
theorem same_own (a b : List UInt8) (hb : a.length ≤ 140737488355328) (v v' : Nat) : Spec Try.prog 20 [.own 0 v 1 0 a.length, .own 1 v' 1 0 b.length] [⟨v, .bytes a⟩, ⟨v', .bytes b⟩] (pms (.val (.bool (decide (a = b)))) [⟨v, .bytes a⟩, ⟨v', .bytes b⟩] []) := by
  have e : ∀ a : List UInt8, (a.drop 0).take a.length = a := fun a => by rw [List.drop_zero, List.take_length]
  have h := spec_ro (same_vc 0 0 ((a.drop 0).take a.length) ((b.drop 0).take b.length) (by rw [e]; exact hb)) trivial trivial (rows := [⟨v, .bytes a⟩, ⟨v', .bytes b⟩]) (args := [.own 0 v 1 0 a.length, .own 1 v' 1 0 b.length]) (asL_cons (as_own (l := a) rfl (by omega)) (asL_cons (as_own (l := b) rfl (by omega)) asL_nil))
  rw [e, e] at h
  exact h
def eraI (x y n n2 : Nat) (sec q : Int) (l m : List UInt8) (i : Nat) : St := ⟨[.val (.int .i64 x), .val (.int .i64 y), .any, .val (.int .i64 sec), .any, .any, .any, .any, .any, .any, .any, .any, .any, .any, .own 41 4 1 0 n, .any, .own 46 4 1 0 n2, .val (.int .i64 q), .val (.int .i64 i), .any, .any, .any, .any, .any, .any, .any, .any, .any, .any, .any, .any, .any, .any, .any, .any, .any, .any, .any, .any, .any, .any, .any, .any, .any, .any, .any, .any, .any, .any, .any, .any, .any, .any, .any, .any, .any, .any, .any, .any, .any, .any, .any, .any, .any, .any, .any, .any, .any, .any, .any, .any, .any, .any, .any, .any, .any, .any, .any, .any, .any, .any, .any, .any, .any, .any, .any, .any, .any, .any, .any, .any, .any, .any, .any, .any, .any, .any, .any, .any, .any, .any, .any, .any, .any, .any, .any, .any, .any, .any, .any, .any, .any, .any, .any, .any, .any, .any, .any, .any, .any, .any, .any, .any, .any, .any, .any, .any, .any, .any, .any, .any], [⟨0, .dead⟩, ⟨0, .dead⟩, ⟨0, .dead⟩, ⟨0, .dead⟩, ⟨0, .dead⟩, ⟨0, .dead⟩, ⟨0, .dead⟩, ⟨0, .dead⟩, ⟨0, .dead⟩, ⟨0, .dead⟩, ⟨0, .dead⟩, ⟨0, .dead⟩, ⟨0, .dead⟩, ⟨4, .dead⟩, ⟨0, .dead⟩, ⟨0, .dead⟩, ⟨0, .dead⟩, ⟨0, .dead⟩, ⟨0, .dead⟩, ⟨0, .dead⟩, ⟨0, .dead⟩, ⟨0, .dead⟩, ⟨0, .dead⟩, ⟨0, .dead⟩, ⟨0, .dead⟩, ⟨0, .dead⟩, ⟨0, .dead⟩, ⟨0, .dead⟩, ⟨3, .dead⟩, ⟨0, .dead⟩, ⟨0, .dead⟩, ⟨0, .dead⟩, ⟨0, .dead⟩, ⟨0, .dead⟩, ⟨0, .dead⟩, ⟨0, .dead⟩, ⟨0, .dead⟩, ⟨0, .dead⟩, ⟨0, .dead⟩, ⟨0, .dead⟩, ⟨0, .dead⟩, ⟨4, .bytes l⟩, ⟨0, .dead⟩, ⟨0, .dead⟩, ⟨0, .dead⟩, ⟨0, .dead⟩, ⟨4, .bytes m⟩, ⟨0, .dead⟩, ⟨0, .dead⟩, ⟨0, .dead⟩, ⟨0, .dead⟩, ⟨0, .dead⟩, ⟨0, .dead⟩, ⟨0, .dead⟩, ⟨0, .dead⟩, ⟨0, .dead⟩, ⟨0, .dead⟩, ⟨0, .dead⟩, ⟨0, .dead⟩, ⟨0, .dead⟩, ⟨0, .dead⟩, ⟨0, .dead⟩, ⟨0, .dead⟩, ⟨0, .dead⟩, ⟨0, .dead⟩, ⟨0, .dead⟩, ⟨0, .dead⟩, ⟨0, .dead⟩, ⟨0, .dead⟩, ⟨0, .dead⟩, ⟨0, .dead⟩, ⟨0, .dead⟩, ⟨0, .dead⟩, ⟨0, .dead⟩, ⟨0, .dead⟩, ⟨0, .dead⟩, ⟨0, .dead⟩, ⟨0, .dead⟩, ⟨0, .dead⟩, ⟨0, .dead⟩, ⟨0, .dead⟩, ⟨0, .dead⟩, ⟨0, .dead⟩, ⟨0, .dead⟩, ⟨0, .dead⟩, ⟨0, .dead⟩, ⟨0, .dead⟩, ⟨0, .dead⟩, ⟨0, .dead⟩, ⟨0, .dead⟩, ⟨0, .dead⟩, ⟨0, .dead⟩, ⟨0, .dead⟩, ⟨0, .dead⟩, ⟨0, .dead⟩, ⟨0, .dead⟩, ⟨0, .dead⟩, ⟨0, .dead⟩, ⟨0, .dead⟩, ⟨0, .dead⟩, ⟨0, .dead⟩, ⟨0, .dead⟩, ⟨0, .dead⟩, ⟨0, .dead⟩, ⟨0, .dead⟩, ⟨0, .dead⟩, ⟨0, .dead⟩, ⟨0, .dead⟩, ⟨0, .dead⟩, ⟨0, .dead⟩, ⟨0, .dead⟩, ⟨0, .dead⟩, ⟨0, .dead⟩, ⟨0, .dead⟩, ⟨0, .dead⟩, ⟨0, .dead⟩, ⟨0, .dead⟩, ⟨0, .dead⟩, ⟨0, .dead⟩, ⟨0, .dead⟩, ⟨0, .dead⟩, ⟨0, .dead⟩, ⟨0, .dead⟩, ⟨0, .dead⟩, ⟨0, .dead⟩, ⟨0, .dead⟩, ⟨0, .dead⟩, ⟨0, .dead⟩, ⟨0, .dead⟩, ⟨0, .dead⟩, ⟨0, .dead⟩]⟩
theorem erases_vc (x y : Int) (hx : I64 x) (hy : I64 y) (l : List OpR) (hl : ∀ o ∈ l, OpOk o) (sec : Int) (hsec : I64 sec) (pt : Nat) (hpt : pt ≤ 65535) (dark : Bool) : Spec Try.prog 5 [.val (.int .i64 x), .val (.int .i64 y), .sl 0 4 opA ⟨0, 0, 0, []⟩ l, .val (.int .i64 sec), .val (.int .u16 pt), .val (.bool dark)] [] (pms (.val (.bool true)) [] []) := by
  refine spec_entry tbOk Try.func5 rfl Try.ntmps5 Try.results5 ?_
  (repeat (first | refine gos (k := ?_) | refine fun (_ : _ = false) => ?_ | refine ⟨fun (_ : true = true) => ?_, fun h => absurd h (by decide)⟩ | refine gtr (k := ?_)))
  refine cmks (vast_vc x y hx hy l) Try.call6 (hon := ⟨trivial, trivial, op_on 0, trivial⟩) 0 [] [] [] ?_
  cases hv : vastF x y l with
  | true =>
    (repeat (first | refine gos (k := ?_) | refine fun (_ : _ = false) => ?_ | refine ⟨fun (_ : true = true) => ?_, fun h => absurd h (by decide)⟩ | refine gtr (k := ?_)))
    refine cmks (works_vc) Try.call7 0 [] [] [] ?_
    (repeat (first | refine gos (k := ?_) | refine fun (_ : _ = false) => ?_ | refine ⟨fun (_ : true = true) => ?_, fun h => absurd h (by decide)⟩ | refine gtr (k := ?_)))
    exact ⟨_, rfl, rfl, trivial⟩
  | false =>
    obtain ⟨hf, hx2, hy2⟩ := few_of hl hv
    by_cases hg : 1 ≤ x ∧ x ≤ 64 ∧ 16 ≤ y ∧ y ≤ 65536
    · obtain ⟨x, rfl⟩ := Int.eq_ofNat_of_zero_le (show 0 ≤ x by omega)
      obtain ⟨y, rfl⟩ := Int.eq_ofNat_of_zero_le (show 0 ≤ y by omega)
      have h1 : 1 ≤ x ∧ x ≤ 64 := by omega
      have h2 : 16 ≤ y ∧ y ≤ 65536 := by omega
      (repeat (first | refine gos (k := ?_) | refine fun (_ : _ = false) => ?_ | refine ⟨fun (_ : true = true) => ?_, fun h => absurd h (by decide)⟩ | refine gtr (k := ?_)))
      refine cmks (behind_vc x y h1 h2 l hf) Try.call8 (hon := ⟨trivial, trivial, op_on 0, trivial⟩) 0 [0, 0, 0, 0, 0, 0, 0, 13, 28] [0, 0, 0, 0, 0, 0, 0, 1, 1] [8, 7] ?_
      obtain ⟨hG, hd, hr⟩ := behind_facts x y h1 h2 l hf
      generalize FS.behind x y l = s at hG hd hr
      cases dark with
      | true =>
        (repeat (first | refine gos (k := ?_) | refine fun (_ : _ = false) => ?_ | refine ⟨fun (_ : true = true) => ?_, fun h => absurd h (by decide)⟩ | refine gtr (k := ?_)))
        refine cdet (spec_arm s 1 pt (by unfold I64; decide) (by unfold I64; omega) 3 4) Try.call14 [28, 13] ?_
        have ht := hG.arm 1 pt (by unfold I64; decide) (by unfold I64; omega)
        have ha : s.arm 1 pt = (0, ⟨s.l, s.k, 1, pt, false, s.wr⟩) := by
          unfold FS.arm
          rw [hd, if_neg (by decide), if_neg (by omega)]
        rw [ha] at ht ⊢
        obtain ⟨t, htt⟩ : ∃ t : FS, t = ⟨s.l, s.k, 1, pt, false, s.wr⟩ := ⟨_, rfl⟩
        simp only at ht
        rw [← htt] at ht ⊢
        have htd : t.dd = false := by rw [htt]
        have hgo : t.goes = true := by rw [htt]; rfl
        have htp : t.pt = pt := by rw [htt]
        clear htt
        (repeat (first | refine gos (k := ?_) | refine fun (_ : _ = false) => ?_ | refine ⟨fun (_ : true = true) => ?_, fun h => absurd h (by decide)⟩ | refine gtr (k := ?_)))
        (
                                        have htl : t.l.length ≤ 140737488355328 := by have := ht.ok.len; omega
                                        have hyk : 0 < y := by omega
                                        refine cmks (spec_image t htl 3 4) Try.call18 2 [28, 13, 0, 0, 0, 0, 0, 0, 0, 0, 0, 41] [0, 0, 0, 0, 0, 0, 0, 0, 0, 0, 0, 1] [11] ?_
                                        (repeat (first | refine gos (k := ?_) | refine fun (_ : _ = false) => ?_ | refine ⟨fun (_ : true = true) => ?_, fun h => absurd h (by decide)⟩ | refine gtr (k := ?_)))
                                        refine cdet (spec_erase t htl ht.ok.k sec hsec ht.ok.ar ht.ok.pt ⟨ht.ok.wr.1, by have := ht.ok.wr.2; omega⟩ 3 4) Try.call13 [28, 13] ?_
                                        by_cases hsv : 0 ≤ sec ∧ sec < x
                                        · obtain ⟨sc, rfl⟩ := Int.eq_ofNat_of_zero_le hsv.1
                                          obtain ⟨e1, e2, e3⟩ := erase_in t x y ht.l ht.k hyk htd sc hsv
                                          have hP : (sc : Int) * (y : Int) = ((sc * y : Nat) : Int) := by push_cast; rfl
                                          have hP2 : sc * y + y ≤ x * y := by
                                            have := Nat.mul_le_mul_right y (show sc + 1 ≤ x by omega)
                                            rwa [Nat.add_mul, Nat.one_mul] at this
                                          have hP3 : x * y ≤ 131072 := Nat.le_trans (Nat.mul_le_mul h1.2 (show y ≤ 2048 by omega)) (by decide)
                                          rw [Int.toNat_natCast] at e3
                                          simp only [hgo, if_true, if_false, Bool.false_eq_true] at e1 e2 e3
                                          rw [e1]
                                          have hEl : (t.erase (sc : Int)).2.l.length = t.l.length := by rw [e3, fillN_length]
                                          generalize t.erase (sc : Int) = E at e1 e2 e3 hEl
                                          (repeat (first | refine gos (k := ?_) | refine fun (_ : _ = false) => ?_ | refine ⟨fun (_ : true = true) => ?_, fun h => absurd h (by decide)⟩ | refine gtr (k := ?_)))
                                          refine cmks (spec_image E.2 (by omega) 3 4) Try.call18 2 [28, 13, 0, 0, 0, 0, 0, 0, 0, 0, 0, 46] [0, 0, 0, 0, 0, 0, 0, 0, 0, 0, 0, 1] [11] ?_
                                          (repeat (first | refine gos (k := ?_) | refine fun (_ : _ = false) => ?_ | refine ⟨fun (_ : true = true) => ?_, fun h => absurd h (by decide)⟩ | refine gtr (k := ?_)))
                                          (try (refine sts (k := ?_); refine gcl (k := ?_)))
                                          refine cdet (spec_dead E.2 3 4) Try.call19 [28, 13] ?_
                                          rw [e2]
                                          (repeat (first | refine gos (k := ?_) | refine fun (_ : _ = false) => ?_ | refine ⟨fun (_ : true = true) => ?_, fun h => absurd h (by decide)⟩ | refine gtr (k := ?_)))
                                          refine And.intro (fun h => absurd h (by simp [hEl])) (fun _ => ?_)
                                          (repeat (first | refine gos (k := ?_) | refine fun (_ : _ = false) => ?_ | refine ⟨fun (_ : true = true) => ?_, fun h => absurd h (by decide)⟩ | refine gtr (k := ?_)))
                                          (refine sts (k := ?_))
                                          (refine sts (k := ?_))
                                          refine loop_of (σ := {i : Nat // i ≤ t.l.length}) (fun i => eraI x y t.l.length E.2.l.length sc (if true then min (y : Int) pt else y) t.l E.2.l i.1) (fun i => t.l.length - i.1) ⟨0, Nat.zero_le _⟩ ?_ ?_ ?_
                                          · simp [eraI, leT, setD, setL, updH, evA, unA, getA, getL, constA, undefs, deads]
                                          · simp [eraI, leH, setD, setL, updH, evA, unA, getA, getL, constA, undefs, deads]
                                          · rintro ⟨i, i1⟩
                                            have hat : ∀ hi : i < t.l.length, E.2.l.getD (0 + (i : Int).toNat) 0 = if (sc : Int) * y ≤ i ∧ (i : Int) < sc * y + (if true then min (y : Int) pt else y) then 255 else t.l.getD (0 + (i : Int).toNat) 0 := by
                                              intro hi
                                              rw [e3, Nat.zero_add, Int.toNat_natCast, fillN_at _ _ _ _ hi, hP]
                                              by_cases qq : (((sc * y : Nat) : Int) ≤ i ∧ (i : Int) < ((sc * y : Nat) : Int) + (if true then min (y : Int) pt else y))
                                              · rw [if_pos qq, if_pos (by simp only [if_true, if_false, Bool.false_eq_true] at qq; omega)]
                                              · rw [if_neg qq, if_neg (by simp only [if_true, if_false, Bool.false_eq_true] at qq; omega)]
                                            have hqb : 0 ≤ (if true then min (y : Int) pt else y) ∧ (if true then min (y : Int) pt else y) ≤ y := by simp only [if_true, if_false, Bool.false_eq_true]; omega
                                            generalize (if true then min (y : Int) pt else y) = q at hat hqb ⊢
                                            have htl2 : t.l.length ≤ 131072 := by rw [ht.l]; exact hP3
                                            have hP4 : (sc : Int) * (y : Int) + y ≤ 131072 := by omega
                                            have hP5 : 0 ≤ (sc : Int) * (y : Int) := by omega
                                            clear e1 e2 e3 hgo htd hP2 hP hsec hsv hx hy hx2 hy2 hv hg h1 h2 hf hl hpt hP3
                                            dsimp only [eraI]
                                            (repeat (first | refine gos (k := ?_) | refine fun (_ : _ = false) => ?_ | refine ⟨fun (_ : true = true) => ?_, fun h => absurd h (by decide)⟩ | refine gtr (k := ?_)))
                                            refine And.intro (fun h => ?_) (fun h => ?_)
                                            · have hlt : i < t.l.length := by have := of_decide_eq_true h; omega
                                              have hat := hat hlt
                                              (repeat (first | refine gos (k := ?_) | refine fun (_ : _ = false) => ?_ | refine ⟨fun (_ : true = true) => ?_, fun h => absurd h (by decide)⟩ | refine gtr (k := ?_)))
                                              refine And.intro (fun hb => ?_) (fun hb => ?_)
                                              · rw [if_pos (by simpa using hb)] at hat
                                                (repeat (first | refine gos (k := ?_) | refine fun (_ : _ = false) => ?_ | refine ⟨fun (_ : true = true) => ?_, fun h => absurd h (by decide)⟩ | refine gtr (k := ?_)))
                                                rw [hat]
                                                (repeat (first | refine gos (k := ?_) | refine fun (_ : _ = false) => ?_ | refine ⟨fun (_ : true = true) => ?_, fun h => absurd h (by decide)⟩ | refine gtr (k := ?_)))
                                                (refine sts (k := ?_))
                                                refine ⟨⟨i + 1, hlt⟩, leS_of ?_ ?_, ?_⟩
                                                · simp [eraI, leT, setD, setL, updH, evA, unA, getA, getL, constA, undefs, deads]
                                                · simp [eraI, leH, setD, setL, updH, evA, unA, getA, getL, constA, undefs, deads]
                                                · show t.l.length - (i + 1) < t.l.length - i
                                                  omega
                                              · rw [if_neg (by simpa using hb)] at hat
                                                (repeat (first | refine gos (k := ?_) | refine fun (_ : _ = false) => ?_ | refine ⟨fun (_ : true = true) => ?_, fun h => absurd h (by decide)⟩ | refine gtr (k := ?_)))
                                                rw [hat]
                                                (repeat (first | refine gos (k := ?_) | refine fun (_ : _ = false) => ?_ | refine ⟨fun (_ : true = true) => ?_, fun h => absurd h (by decide)⟩ | refine gtr (k := ?_)))
                                                (refine sts (k := ?_))
                                                refine ⟨⟨i + 1, hlt⟩, leS_of ?_ ?_, ?_⟩
                                                · simp [eraI, leT, setD, setL, updH, evA, unA, getA, getL, constA, undefs, deads]
                                                · simp [eraI, leH, setD, setL, updH, evA, unA, getA, getL, constA, undefs, deads]
                                                · show t.l.length - (i + 1) < t.l.length - i
                                                  omega
                                            · (repeat (first | refine gos (k := ?_) | refine fun (_ : _ = false) => ?_ | refine ⟨fun (_ : true = true) => ?_, fun h => absurd h (by decide)⟩ | refine gtr (k := ?_)))
                                              refine cmks (works_vc) Try.call7 0 [] [] [] ?_
                                              (repeat (first | refine gos (k := ?_) | refine fun (_ : _ = false) => ?_ | refine ⟨fun (_ : true = true) => ?_, fun h => absurd h (by decide)⟩ | refine gtr (k := ?_)))
                                              exact ⟨_, rfl, rfl, trivial⟩
                                        · have he := erase_out t x y ht.l ht.k hyk htd sec hsv
                                          rw [he]
                                          (repeat (first | refine gos (k := ?_) | refine fun (_ : _ = false) => ?_ | refine ⟨fun (_ : true = true) => ?_, fun h => absurd h (by decide)⟩ | refine gtr (k := ?_)))
                                          refine cmks (spec_image t htl 3 4) Try.call18 2 [28, 13, 0, 0, 0, 0, 0, 0, 0, 0, 0, 46] [0, 0, 0, 0, 0, 0, 0, 0, 0, 0, 0, 1] [11] ?_
                                          (repeat (first | refine gos (k := ?_) | refine fun (_ : _ = false) => ?_ | refine ⟨fun (_ : true = true) => ?_, fun h => absurd h (by decide)⟩ | refine gtr (k := ?_)))
                                          refine cmks (same_own t.l t.l htl 4 4) Try.call20 2 [41, 46] [0, 0] [] ?_
                                          rw [decide_eq_true (rfl : t.l = t.l)]
                                          (repeat (first | refine gos (k := ?_) | refine fun (_ : _ = false) => ?_ | refine ⟨fun (_ : true = true) => ?_, fun h => absurd h (by decide)⟩ | refine gtr (k := ?_)))
                                          (try (refine sts (k := ?_); refine gcl (k := ?_)))
                                          refine cdet (spec_dead t 3 4) Try.call19 [28, 13] ?_
                                          rw [htd]
                                          (repeat (first | refine gos (k := ?_) | refine fun (_ : _ = false) => ?_ | refine ⟨fun (_ : true = true) => ?_, fun h => absurd h (by decide)⟩ | refine gtr (k := ?_)))
                                          (try (refine sts (k := ?_); refine gcl (k := ?_)))
                                          refine cmks (works_vc) Try.call7 0 [] [] [] ?_
                                          (repeat (first | refine gos (k := ?_) | refine fun (_ : _ = false) => ?_ | refine ⟨fun (_ : true = true) => ?_, fun h => absurd h (by decide)⟩ | refine gtr (k := ?_)))
                                          exact ⟨_, rfl, rfl, trivial⟩)
      | false =>
        have ht := hG
        have htd := hd
        have hgo : s.goes = false := by unfold FS.goes; rw [hr]; rfl
        obtain ⟨t, rfl⟩ : ∃ t : FS, t = s := ⟨_, rfl⟩
        (repeat (first | refine gos (k := ?_) | refine fun (_ : _ = false) => ?_ | refine ⟨fun (_ : true = true) => ?_, fun h => absurd h (by decide)⟩ | refine gtr (k := ?_)))
        intro _
        (repeat (first | refine gos (k := ?_) | refine fun (_ : _ = false) => ?_ | refine ⟨fun (_ : true = true) => ?_, fun h => absurd h (by decide)⟩ | refine gtr (k := ?_)))
        (
                                        have htl : t.l.length ≤ 140737488355328 := by have := ht.ok.len; omega
                                        have hyk : 0 < y := by omega
                                        refine cmks (spec_image t htl 3 4) Try.call18 2 [28, 13, 0, 0, 0, 0, 0, 0, 0, 0, 0, 41] [0, 0, 0, 0, 0, 0, 0, 0, 0, 0, 0, 1] [11] ?_
                                        (repeat (first | refine gos (k := ?_) | refine fun (_ : _ = false) => ?_ | refine ⟨fun (_ : true = true) => ?_, fun h => absurd h (by decide)⟩ | refine gtr (k := ?_)))
                                        refine cdet (spec_erase t htl ht.ok.k sec hsec ht.ok.ar ht.ok.pt ⟨ht.ok.wr.1, by have := ht.ok.wr.2; omega⟩ 3 4) Try.call13 [28, 13] ?_
                                        by_cases hsv : 0 ≤ sec ∧ sec < x
                                        · obtain ⟨sc, rfl⟩ := Int.eq_ofNat_of_zero_le hsv.1
                                          obtain ⟨e1, e2, e3⟩ := erase_in t x y ht.l ht.k hyk htd sc hsv
                                          have hP : (sc : Int) * (y : Int) = ((sc * y : Nat) : Int) := by push_cast; rfl
                                          have hP2 : sc * y + y ≤ x * y := by
                                            have := Nat.mul_le_mul_right y (show sc + 1 ≤ x by omega)
                                            rwa [Nat.add_mul, Nat.one_mul] at this
                                          have hP3 : x * y ≤ 131072 := Nat.le_trans (Nat.mul_le_mul h1.2 (show y ≤ 2048 by omega)) (by decide)
                                          rw [Int.toNat_natCast] at e3
                                          simp only [hgo, if_true, if_false, Bool.false_eq_true] at e1 e2 e3
                                          rw [e1]
                                          have hEl : (t.erase (sc : Int)).2.l.length = t.l.length := by rw [e3, fillN_length]
                                          generalize t.erase (sc : Int) = E at e1 e2 e3 hEl
                                          (repeat (first | refine gos (k := ?_) | refine fun (_ : _ = false) => ?_ | refine ⟨fun (_ : true = true) => ?_, fun h => absurd h (by decide)⟩ | refine gtr (k := ?_)))
                                          refine cmks (spec_image E.2 (by omega) 3 4) Try.call18 2 [28, 13, 0, 0, 0, 0, 0, 0, 0, 0, 0, 46] [0, 0, 0, 0, 0, 0, 0, 0, 0, 0, 0, 1] [11] ?_
                                          (repeat (first | refine gos (k := ?_) | refine fun (_ : _ = false) => ?_ | refine ⟨fun (_ : true = true) => ?_, fun h => absurd h (by decide)⟩ | refine gtr (k := ?_)))
                                          (try (refine sts (k := ?_); refine gcl (k := ?_)))
                                          refine cdet (spec_dead E.2 3 4) Try.call19 [28, 13] ?_
                                          rw [e2]
                                          (repeat (first | refine gos (k := ?_) | refine fun (_ : _ = false) => ?_ | refine ⟨fun (_ : true = true) => ?_, fun h => absurd h (by decide)⟩ | refine gtr (k := ?_)))
                                          refine And.intro (fun h => absurd h (by simp [hEl])) (fun _ => ?_)
                                          (repeat (first | refine gos (k := ?_) | refine fun (_ : _ = false) => ?_ | refine ⟨fun (_ : true = true) => ?_, fun h => absurd h (by decide)⟩ | refine gtr (k := ?_)))
                                          (refine sts (k := ?_))
                                          (refine sts (k := ?_))
                                          refine loop_of (σ := {i : Nat // i ≤ t.l.length}) (fun i => eraI x y t.l.length E.2.l.length sc (if false then min (y : Int) pt else y) t.l E.2.l i.1) (fun i => t.l.length - i.1) ⟨0, Nat.zero_le _⟩ ?_ ?_ ?_
                                          · simp [eraI, leT, setD, setL, updH, evA, unA, getA, getL, constA, undefs, deads]
                                          · simp [eraI, leH, setD, setL, updH, evA, unA, getA, getL, constA, undefs, deads]
                                          · rintro ⟨i, i1⟩
                                            have hat : ∀ hi : i < t.l.length, E.2.l.getD (0 + (i : Int).toNat) 0 = if (sc : Int) * y ≤ i ∧ (i : Int) < sc * y + (if false then min (y : Int) pt else y) then 255 else t.l.getD (0 + (i : Int).toNat) 0 := by
                                              intro hi
                                              rw [e3, Nat.zero_add, Int.toNat_natCast, fillN_at _ _ _ _ hi, hP]
                                              by_cases qq : (((sc * y : Nat) : Int) ≤ i ∧ (i : Int) < ((sc * y : Nat) : Int) + (if false then min (y : Int) pt else y))
                                              · rw [if_pos qq, if_pos (by simp only [if_true, if_false, Bool.false_eq_true] at qq; omega)]
                                              · rw [if_neg qq, if_neg (by simp only [if_true, if_false, Bool.false_eq_true] at qq; omega)]
                                            have hqb : 0 ≤ (if false then min (y : Int) pt else y) ∧ (if false then min (y : Int) pt else y) ≤ y := by simp only [if_true, if_false, Bool.false_eq_true]; omega
                                            generalize (if false then min (y : Int) pt else y) = q at hat hqb ⊢
                                            have htl2 : t.l.length ≤ 131072 := by rw [ht.l]; exact hP3
                                            have hP4 : (sc : Int) * (y : Int) + y ≤ 131072 := by omega
                                            have hP5 : 0 ≤ (sc : Int) * (y : Int) := by omega
                                            clear e1 e2 e3 hgo htd hP2 hP hsec hsv hx hy hx2 hy2 hv hg h1 h2 hf hl hpt hP3
                                            dsimp only [eraI]
                                            (repeat (first | refine gos (k := ?_) | refine fun (_ : _ = false) => ?_ | refine ⟨fun (_ : true = true) => ?_, fun h => absurd h (by decide)⟩ | refine gtr (k := ?_)))
                                            refine And.intro (fun h => ?_) (fun h => ?_)
                                            · have hlt : i < t.l.length := by have := of_decide_eq_true h; omega
                                              have hat := hat hlt
                                              (repeat (first | refine gos (k := ?_) | refine fun (_ : _ = false) => ?_ | refine ⟨fun (_ : true = true) => ?_, fun h => absurd h (by decide)⟩ | refine gtr (k := ?_)))
                                              refine And.intro (fun hb => ?_) (fun hb => ?_)
                                              · rw [if_pos (by simpa using hb)] at hat
                                                (repeat (first | refine gos (k := ?_) | refine fun (_ : _ = false) => ?_ | refine ⟨fun (_ : true = true) => ?_, fun h => absurd h (by decide)⟩ | refine gtr (k := ?_)))
                                                rw [hat]
                                                (repeat (first | refine gos (k := ?_) | refine fun (_ : _ = false) => ?_ | refine ⟨fun (_ : true = true) => ?_, fun h => absurd h (by decide)⟩ | refine gtr (k := ?_)))
                                                (refine sts (k := ?_))
                                                refine ⟨⟨i + 1, hlt⟩, leS_of ?_ ?_, ?_⟩
                                                · simp [eraI, leT, setD, setL, updH, evA, unA, getA, getL, constA, undefs, deads]
                                                · simp [eraI, leH, setD, setL, updH, evA, unA, getA, getL, constA, undefs, deads]
                                                · show t.l.length - (i + 1) < t.l.length - i
                                                  omega
                                              · rw [if_neg (by simpa using hb)] at hat
                                                (repeat (first | refine gos (k := ?_) | refine fun (_ : _ = false) => ?_ | refine ⟨fun (_ : true = true) => ?_, fun h => absurd h (by decide)⟩ | refine gtr (k := ?_)))
                                                rw [hat]
                                                (repeat (first | refine gos (k := ?_) | refine fun (_ : _ = false) => ?_ | refine ⟨fun (_ : true = true) => ?_, fun h => absurd h (by decide)⟩ | refine gtr (k := ?_)))
                                                (refine sts (k := ?_))
                                                refine ⟨⟨i + 1, hlt⟩, leS_of ?_ ?_, ?_⟩
                                                · simp [eraI, leT, setD, setL, updH, evA, unA, getA, getL, constA, undefs, deads]
                                                · simp [eraI, leH, setD, setL, updH, evA, unA, getA, getL, constA, undefs, deads]
                                                · show t.l.length - (i + 1) < t.l.length - i
                                                  omega
                                            · (repeat (first | refine gos (k := ?_) | refine fun (_ : _ = false) => ?_ | refine ⟨fun (_ : true = true) => ?_, fun h => absurd h (by decide)⟩ | refine gtr (k := ?_)))
                                              refine cmks (works_vc) Try.call7 0 [] [] [] ?_
                                              (repeat (first | refine gos (k := ?_) | refine fun (_ : _ = false) => ?_ | refine ⟨fun (_ : true = true) => ?_, fun h => absurd h (by decide)⟩ | refine gtr (k := ?_)))
                                              exact ⟨_, rfl, rfl, trivial⟩
                                        · have he := erase_out t x y ht.l ht.k hyk htd sec hsv
                                          rw [he]
                                          (repeat (first | refine gos (k := ?_) | refine fun (_ : _ = false) => ?_ | refine ⟨fun (_ : true = true) => ?_, fun h => absurd h (by decide)⟩ | refine gtr (k := ?_)))
                                          refine cmks (spec_image t htl 3 4) Try.call18 2 [28, 13, 0, 0, 0, 0, 0, 0, 0, 0, 0, 46] [0, 0, 0, 0, 0, 0, 0, 0, 0, 0, 0, 1] [11] ?_
                                          (repeat (first | refine gos (k := ?_) | refine fun (_ : _ = false) => ?_ | refine ⟨fun (_ : true = true) => ?_, fun h => absurd h (by decide)⟩ | refine gtr (k := ?_)))
                                          refine cmks (same_own t.l t.l htl 4 4) Try.call20 2 [41, 46] [0, 0] [] ?_
                                          rw [decide_eq_true (rfl : t.l = t.l)]
                                          (repeat (first | refine gos (k := ?_) | refine fun (_ : _ = false) => ?_ | refine ⟨fun (_ : true = true) => ?_, fun h => absurd h (by decide)⟩ | refine gtr (k := ?_)))
                                          (try (refine sts (k := ?_); refine gcl (k := ?_)))
                                          refine cdet (spec_dead t 3 4) Try.call19 [28, 13] ?_
                                          rw [htd]
                                          (repeat (first | refine gos (k := ?_) | refine fun (_ : _ = false) => ?_ | refine ⟨fun (_ : true = true) => ?_, fun h => absurd h (by decide)⟩ | refine gtr (k := ?_)))
                                          (try (refine sts (k := ?_); refine gcl (k := ?_)))
                                          refine cmks (works_vc) Try.call7 0 [] [] [] ?_
                                          (repeat (first | refine gos (k := ?_) | refine fun (_ : _ = false) => ?_ | refine ⟨fun (_ : true = true) => ?_, fun h => absurd h (by decide)⟩ | refine gtr (k := ?_)))
                                          exact ⟨_, rfl, rfl, trivial⟩)
    · (repeat (first | refine gos (k := ?_) | refine fun (_ : _ = false) => ?_ | refine ⟨fun (_ : true = true) => ?_, fun h => absurd h (by decide)⟩ | refine gtr (k := ?_)))
      refine cmks (behind_bad x y hx hy hg l) Try.call8 (hon := ⟨trivial, trivial, op_on 0, trivial⟩) 0 [] [] [] ?_
      (repeat (first | refine gos (k := ?_) | refine fun (_ : _ = false) => ?_ | refine ⟨fun (_ : true = true) => ?_, fun h => absurd h (by decide)⟩ | refine gtr (k := ?_)))
      refine cmks (works_vc) Try.call7 0 [] [] [] ?_
      (repeat (first | refine gos (k := ?_) | refine fun (_ : _ = false) => ?_ | refine ⟨fun (_ : true = true) => ?_, fun h => absurd h (by decide)⟩ | refine gtr (k := ?_)))
      exact ⟨_, rfl, rfl, trivial⟩
end Go.Proofs.Ytjfenbkhgamidaa
