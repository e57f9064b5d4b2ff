/- Walks of lintellaw08: BankKills. Conditions: none. -/
import Derived.Test.YtddocchgikaahaaDoorBk20
namespace Go.Proofs.YtddocchgikaahaaDoor
open Go.RowKit
set_option linter.unusedVariables false
set_option linter.unusedSimpArgs false
set_option maxRecDepth 100000
set_option maxHeartbeats 1500000
theorem law_kills (l : List OpB) (ho : ∀ o ∈ l, OpBOk o) (z : Nat) (i : Int) (hi : I64 i) (dark : Bool) : Spec Tryd.prog 5 [.sl z 5 (opB z) opB0 l, .val (.int .i64 i), .val (.bool dark)] [] (pms (.val (.bool true)) [] []) := by
  obtain ⟨s0, hB0, hG0, hbeg⟩ := begun_ex
  refine spec_entry tbOk Tryd.func5 rfl Tryd.ntmps5 Tryd.results5 ?_
  (repeat (first | refine gos (k := ?_) | refine fun (_ : _ = false) => ?_ | refine ⟨fun (_ : true = true) => ?_, fun h => absurd h (by decide)⟩ | refine gtr (k := ?_)))
  refine ⟨fun h => ?_, fun h => ?_⟩
  · (repeat (first | refine gos (k := ?_) | refine fun (_ : _ = false) => ?_ | refine ⟨fun (_ : true = true) => ?_, fun h => absurd h (by decide)⟩ | refine gtr (k := ?_)))
    refine cmks (works_vc) Tryd.call9 0 [] [] [] ?_
    (repeat (first | refine gos (k := ?_) | refine fun (_ : _ = false) => ?_ | refine ⟨fun (_ : true = true) => ?_, fun h => absurd h (by decide)⟩ | refine gtr (k := ?_)))
    exact ⟨_, rfl, rfl, trivial⟩
  have hl : l.length ≤ 20 := by have := of_decide_eq_false h; omega
  have hb := hbeg l hl ho z
  have gl := bg_goes hG0 l l.length
  (repeat (first | refine gos (k := ?_) | refine fun (_ : _ = false) => ?_ | refine ⟨fun (_ : true = true) => ?_, fun h => absurd h (by decide)⟩ | refine gtr (k := ?_)))
  by_cases hE : bgE s0 l l.length
  · have hB := bg_BG hB0 l l.length hE
    have hy := spec_yes hb hE
    generalize bgS s0 l l.length = s at hy gl hB
    unfold fRow at hy
    refine cmks (hy) Tryd.call23 (hon := ⟨fun _ => ⟨trivial, trivial, trivial, trivial, trivial, trivial⟩, trivial⟩) 0 [0, 0, 0, 0, 0, 0, 0, 0, 0, 0, 0, 0, 30, 29, 0, 0, 0, 0, 0, 31] [0, 0, 0, 0, 0, 0, 0, 0, 0, 0, 0, 0, 1, 1, 0, 0, 0, 0, 0, 1] [12, 13, 19] ?_
    (repeat (first | refine gos (k := ?_) | refine fun (_ : _ = false) => ?_ | refine ⟨fun (_ : true = true) => ?_, fun h => absurd h (by decide)⟩ | refine gtr (k := ?_)))
    have hGl : s.l.length = 2048 := gl.l
    obtain ⟨k, hS, hkn, hd, hA, hZ⟩ := kills_law hB i
    (
                                        refine cmks (look_vc s 0 8 gl lies8 hd k _ true hS 3 3 4) Tryd.call18 (he := ⟨fun _ => ⟨rfl, rfl, trivial, trivial⟩, trivial, trivial⟩) 3 [31, 30, 29, 0, 0, 0, 0, 0, 0, 0, 0, 0, 35, 34] [0, 0, 0, 0, 0, 0, 0, 0, 0, 0, 0, 0, 1, 1] [12, 13] ?_)
    have bk := look_bound gl lies8 hS
    (repeat (first | refine gos (k := ?_) | refine fun (_ : _ = false) => ?_ | refine ⟨fun (_ : true = true) => ?_, fun h => absurd h (by decide)⟩ | refine gtr (k := ?_)))
    cases dark with
    | false =>
      (repeat (first | refine gos (k := ?_) | refine fun (_ : _ = false) => ?_ | refine ⟨fun (_ : true = true) => ?_, fun h => absurd h (by decide)⟩ | refine gtr (k := ?_)))
      intro _
      (repeat (first | refine gos (k := ?_) | refine fun (_ : _ = false) => ?_ | refine ⟨fun (_ : true = true) => ?_, fun h => absurd h (by decide)⟩ | refine gtr (k := ?_)))
      refine cmks (kill_vc s 0 8 gl (by omega) lies8 i hi 3 3 4) Tryd.call26 3 [31, 30, 29] [0, 0, 0] [] ?_
      by_cases hI : i < 0 ∨ (l.length : Int) ≤ i
      · obtain ⟨a1, a2, _⟩ := hA hI
        rw [a1]
        (repeat (first | refine gos (k := ?_) | refine fun (_ : _ = false) => ?_ | refine ⟨fun (_ : true = true) => ?_, fun h => absurd h (by decide)⟩ | refine gtr (k := ?_)))
        refine cdet (spec_on_e s s 12 a2 3 4) Tryd.call25 [30, 29] ?_
        (repeat (first | refine gos (k := ?_) | refine fun (_ : _ = false) => ?_ | refine ⟨fun (_ : true = true) => ?_, fun h => absurd h (by decide)⟩ | refine gtr (k := ?_)))
        (
                                        refine cmks (look_vc s 0 8 gl lies8 hd k _ true hS 3 3 4) Tryd.call18 (he := ⟨fun _ => ⟨rfl, rfl, trivial, trivial⟩, trivial, trivial⟩) 3 [31, 30, 29, 0, 0, 0, 0, 0, 0, 0, 0, 0, 60, 59] [0, 0, 0, 0, 0, 0, 0, 0, 0, 0, 0, 0, 1, 1] [12, 13] ?_)
        (repeat (first | refine gos (k := ?_) | refine fun (_ : _ = false) => ?_ | refine ⟨fun (_ : true = true) => ?_, fun h => absurd h (by decide)⟩ | refine gtr (k := ?_)))
        (
                                        refine cmks (sameR_is (RRel.of k) (RRel.of k) bk (decide_eq_true rfl) k.length k.length (k.length + 2 + 1) 3 (k.length + 2 + 1) 3 (by simp [rrOf_len]) (by simp [rrOf_len])) Tryd.call20 (hrows := ⟨⟨fun _ => ⟨(by show 1 < 4; decide), (by show 1 < 4; decide), trivial, trivial⟩, rfl⟩, ⟨trivial, rfl⟩, ⟨fun _ => ⟨(by show 3 < 4; decide), (by show 3 < 4; decide), trivial, trivial⟩, rfl⟩, ⟨trivial, rfl⟩, trivial⟩) (hr2 := ⟨fun _ => ⟨rfl, rfl, trivial, trivial⟩, trivial, fun _ => ⟨rfl, rfl, trivial, trivial⟩, trivial, trivial⟩) 4 [35, 34, 60, 59] [0, 0, 0, 0] [] ?_)
        (
                                        (repeat (first | refine gos (k := ?_) | refine fun (_ : _ = false) => ?_ | refine ⟨fun (_ : true = true) => ?_, fun h => absurd h (by decide)⟩ | refine gtr (k := ?_)))
                                        refine cmks (works_vc) Tryd.call9 0 [] [] [] ?_
                                        (repeat (first | refine gos (k := ?_) | refine fun (_ : _ = false) => ?_ | refine ⟨fun (_ : true = true) => ?_, fun h => absurd h (by decide)⟩ | refine gtr (k := ?_)))
                                        exact ⟨_, rfl, rfl, trivial⟩)
      · obtain ⟨⟨s2, k2, a1, a2, a3, a4, a5, a6⟩, _⟩ := hZ hI
        have gk := gl.kill 0 8 i
        rw [a1] at gk
        rw [a1]
        (repeat (first | refine gos (k := ?_) | refine fun (_ : _ = false) => ?_ | refine ⟨fun (_ : true = true) => ?_, fun h => absurd h (by decide)⟩ | refine gtr (k := ?_)))
        refine cdet (spec_on_e s2 s2 12 a2 3 4) Tryd.call25 [30, 29] ?_
        (repeat (first | refine gos (k := ?_) | refine fun (_ : _ = false) => ?_ | refine ⟨fun (_ : true = true) => ?_, fun h => absurd h (by decide)⟩ | refine gtr (k := ?_)))
        (
                                        refine cmks (look_vc s2 0 8 gk lies8 a3 k2 _ true a4 3 3 4) Tryd.call18 (he := ⟨fun _ => ⟨rfl, rfl, trivial, trivial⟩, trivial, trivial⟩) 3 [31, 30, 29, 0, 0, 0, 0, 0, 0, 0, 0, 0, 60, 59] [0, 0, 0, 0, 0, 0, 0, 0, 0, 0, 0, 0, 1, 1] [12, 13] ?_)
        (repeat (first | refine gos (k := ?_) | refine fun (_ : _ = false) => ?_ | refine ⟨fun (_ : true = true) => ?_, fun h => absurd h (by decide)⟩ | refine gtr (k := ?_)))
        refine ⟨fun h => absurd h (by simp; omega), fun _ => ?_⟩
        (repeat (first | refine gos (k := ?_) | refine fun (_ : _ = false) => ?_ | refine ⟨fun (_ : true = true) => ?_, fun h => absurd h (by decide)⟩ | refine gtr (k := ?_)))
        have hin : 0 + i.toNat < (rrOf 0 k).length := by rw [rrOf_len]; omega
        refine ⟨⟨((rrOf 0 k).getD (0 + i.toNat) ⟨0, 0, 0, false⟩).i, ((rrOf 0 k).getD (0 + i.toNat) ⟨0, 0, 0, false⟩).kn, ((rrOf 0 k).getD (0 + i.toNat) ⟨0, 0, 0, false⟩).vn, false⟩, ?_⟩
        conv => whnf
        refine And.intro ⟨rfl, rfl, hin, ⟨rfl, trivial⟩, rfl, by decide, rfl⟩ ?_
        rw [Nat.zero_add]
        (repeat (first | refine gos (k := ?_) | refine fun (_ : _ = false) => ?_ | refine ⟨fun (_ : true = true) => ?_, fun h => absurd h (by decide)⟩ | refine gtr (k := ?_)))
        have hR := (RRel.of k).set i.toNat false ⟨0, 0, 0, false⟩ ⟨[], [], false⟩
        have bk2 := look_bound gk lies8 a4
        rw [a6] at bk2
        (
                                        refine cmks (sameR_is hR (RRel.of k2) bk2 (decide_eq_true a6.symm) k.length k2.length (k.length + 2 + 1) 3 (k2.length + 2 + 1) 3 (by simp [rrOf_len]) (by simp [rrOf_len])) Tryd.call20 (hrows := ⟨⟨fun _ => ⟨(by show 1 < 4; decide), (by show 1 < 4; decide), trivial, trivial⟩, rfl⟩, ⟨trivial, rfl⟩, ⟨fun _ => ⟨(by show 3 < 4; decide), (by show 3 < 4; decide), trivial, trivial⟩, rfl⟩, ⟨trivial, rfl⟩, trivial⟩) (hr2 := ⟨fun _ => ⟨rfl, rfl, trivial, trivial⟩, trivial, fun _ => ⟨rfl, rfl, trivial, trivial⟩, trivial, trivial⟩) 4 [35, 34, 60, 59] [0, 0, 0, 0] [] ?_)
        (
                                        (repeat (first | refine gos (k := ?_) | refine fun (_ : _ = false) => ?_ | refine ⟨fun (_ : true = true) => ?_, fun h => absurd h (by decide)⟩ | refine gtr (k := ?_)))
                                        refine cmks (works_vc) Tryd.call9 0 [] [] [] ?_
                                        (repeat (first | refine gos (k := ?_) | refine fun (_ : _ = false) => ?_ | refine ⟨fun (_ : true = true) => ?_, fun h => absurd h (by decide)⟩ | refine gtr (k := ?_)))
                                        exact ⟨_, rfl, rfl, trivial⟩)
    | true =>
      (repeat (first | refine gos (k := ?_) | refine fun (_ : _ = false) => ?_ | refine ⟨fun (_ : true = true) => ?_, fun h => absurd h (by decide)⟩ | refine gtr (k := ?_)))
      by_cases hI : i < 0 ∨ (l.length : Int) ≤ i
      · obtain ⟨_, _, s1, a1, a2, a3, a4, a5⟩ := hA hI
        have ga := gl.arm 1 0 (by unfold I64; omega) (by unfold I64; omega)
        rw [a1] at ga
        refine cdet (spec_arm s 1 0 (by unfold I64; omega) (by unfold I64; omega) 3 4) Tryd.call24 [30, 29] ?_
        rw [a1]
        (repeat (first | refine gos (k := ?_) | refine fun (_ : _ = false) => ?_ | refine ⟨fun (_ : true = true) => ?_, fun h => absurd h (by decide)⟩ | refine gtr (k := ?_)))
        refine cmks (kill_vc s1 0 8 ga (by omega) lies8 i hi 3 3 4) Tryd.call26 3 [31, 30, 29] [0, 0, 0] [] ?_
        rw [a2]
        (repeat (first | refine gos (k := ?_) | refine fun (_ : _ = false) => ?_ | refine ⟨fun (_ : true = true) => ?_, fun h => absurd h (by decide)⟩ | refine gtr (k := ?_)))
        refine cdet (spec_on_e s1 s1 12 a3 3 4) Tryd.call25 [30, 29] ?_
        (repeat (first | refine gos (k := ?_) | refine fun (_ : _ = false) => ?_ | refine ⟨fun (_ : true = true) => ?_, fun h => absurd h (by decide)⟩ | refine gtr (k := ?_)))
        (
                                        refine cmks (look_vc s1 0 8 ga lies8 a4 k _ true a5 3 3 4) Tryd.call18 (he := ⟨fun _ => ⟨rfl, rfl, trivial, trivial⟩, trivial, trivial⟩) 3 [31, 30, 29, 0, 0, 0, 0, 0, 0, 0, 0, 0, 60, 59] [0, 0, 0, 0, 0, 0, 0, 0, 0, 0, 0, 0, 1, 1] [12, 13] ?_)
        (repeat (first | refine gos (k := ?_) | refine fun (_ : _ = false) => ?_ | refine ⟨fun (_ : true = true) => ?_, fun h => absurd h (by decide)⟩ | refine gtr (k := ?_)))
        (
                                        refine cmks (sameR_is (RRel.of k) (RRel.of k) bk (decide_eq_true rfl) k.length k.length (k.length + 2 + 1) 3 (k.length + 2 + 1) 3 (by simp [rrOf_len]) (by simp [rrOf_len])) Tryd.call20 (hrows := ⟨⟨fun _ => ⟨(by show 1 < 4; decide), (by show 1 < 4; decide), trivial, trivial⟩, rfl⟩, ⟨trivial, rfl⟩, ⟨fun _ => ⟨(by show 3 < 4; decide), (by show 3 < 4; decide), trivial, trivial⟩, rfl⟩, ⟨trivial, rfl⟩, trivial⟩) (hr2 := ⟨fun _ => ⟨rfl, rfl, trivial, trivial⟩, trivial, fun _ => ⟨rfl, rfl, trivial, trivial⟩, trivial, trivial⟩) 4 [35, 34, 60, 59] [0, 0, 0, 0] [] ?_)
        (
                                        (repeat (first | refine gos (k := ?_) | refine fun (_ : _ = false) => ?_ | refine ⟨fun (_ : true = true) => ?_, fun h => absurd h (by decide)⟩ | refine gtr (k := ?_)))
                                        refine cmks (works_vc) Tryd.call9 0 [] [] [] ?_
                                        (repeat (first | refine gos (k := ?_) | refine fun (_ : _ = false) => ?_ | refine ⟨fun (_ : true = true) => ?_, fun h => absurd h (by decide)⟩ | refine gtr (k := ?_)))
                                        exact ⟨_, rfl, rfl, trivial⟩)
      · obtain ⟨_, s1, s2, s3, a1, a2, a3, a4, a5⟩ := hZ hI
        have ga := gl.arm 1 0 (by unfold I64; omega) (by unfold I64; omega)
        rw [a1] at ga
        refine cdet (spec_arm s 1 0 (by unfold I64; omega) (by unfold I64; omega) 3 4) Tryd.call24 [30, 29] ?_
        rw [a1]
        (repeat (first | refine gos (k := ?_) | refine fun (_ : _ = false) => ?_ | refine ⟨fun (_ : true = true) => ?_, fun h => absurd h (by decide)⟩ | refine gtr (k := ?_)))
        have gk := ga.kill 0 8 i
        refine cmks (kill_vc s1 0 8 ga (by omega) lies8 i hi 3 3 4) Tryd.call26 3 [31, 30, 29] [0, 0, 0] [] ?_
        rw [a2] at gk
        rw [a2]
        have go := gk.on
        rw [a3] at go
        (repeat (first | refine gos (k := ?_) | refine fun (_ : _ = false) => ?_ | refine ⟨fun (_ : true = true) => ?_, fun h => absurd h (by decide)⟩ | refine gtr (k := ?_)))
        refine cdet (spec_on_e s2 s3 0 a3 3 4) Tryd.call25 [30, 29] ?_
        (repeat (first | refine gos (k := ?_) | refine fun (_ : _ = false) => ?_ | refine ⟨fun (_ : true = true) => ?_, fun h => absurd h (by decide)⟩ | refine gtr (k := ?_)))
        (
                                        refine cmks (look_vc s3 0 8 go lies8 a4 k _ true a5 3 3 4) Tryd.call18 (he := ⟨fun _ => ⟨rfl, rfl, trivial, trivial⟩, trivial, trivial⟩) 3 [31, 30, 29, 0, 0, 0, 0, 0, 0, 0, 0, 0, 60, 59] [0, 0, 0, 0, 0, 0, 0, 0, 0, 0, 0, 0, 1, 1] [12, 13] ?_)
        (repeat (first | refine gos (k := ?_) | refine fun (_ : _ = false) => ?_ | refine ⟨fun (_ : true = true) => ?_, fun h => absurd h (by decide)⟩ | refine gtr (k := ?_)))
        (
                                        refine cmks (sameR_is (RRel.of k) (RRel.of k) bk (decide_eq_true rfl) k.length k.length (k.length + 2 + 1) 3 (k.length + 2 + 1) 3 (by simp [rrOf_len]) (by simp [rrOf_len])) Tryd.call20 (hrows := ⟨⟨fun _ => ⟨(by show 1 < 4; decide), (by show 1 < 4; decide), trivial, trivial⟩, rfl⟩, ⟨trivial, rfl⟩, ⟨fun _ => ⟨(by show 3 < 4; decide), (by show 3 < 4; decide), trivial, trivial⟩, rfl⟩, ⟨trivial, rfl⟩, trivial⟩) (hr2 := ⟨fun _ => ⟨rfl, rfl, trivial, trivial⟩, trivial, fun _ => ⟨rfl, rfl, trivial, trivial⟩, trivial, trivial⟩) 4 [35, 34, 60, 59] [0, 0, 0, 0] [] ?_)
        (
                                        (repeat (first | refine gos (k := ?_) | refine fun (_ : _ = false) => ?_ | refine ⟨fun (_ : true = true) => ?_, fun h => absurd h (by decide)⟩ | refine gtr (k := ?_)))
                                        refine cmks (works_vc) Tryd.call9 0 [] [] [] ?_
                                        (repeat (first | refine gos (k := ?_) | refine fun (_ : _ = false) => ?_ | refine ⟨fun (_ : true = true) => ?_, fun h => absurd h (by decide)⟩ | refine gtr (k := ?_)))
                                        exact ⟨_, rfl, rfl, trivial⟩)
  · obtain ⟨j, hy⟩ := spec_no hb hE
    generalize bgS s0 l j = s at hy
    unfold fRow at hy
    refine cmks (hy) Tryd.call23 (hon := ⟨fun _ => ⟨trivial, trivial, trivial, trivial, trivial, trivial⟩, trivial⟩) 0 [0, 0, 0, 0, 0, 0, 0, 0, 0, 0, 0, 0, 30, 29] [0, 0, 0, 0, 0, 0, 0, 0, 0, 0, 0, 0, 1, 1] [12, 13] ?_
    (repeat (first | refine gos (k := ?_) | refine fun (_ : _ = false) => ?_ | refine ⟨fun (_ : true = true) => ?_, fun h => absurd h (by decide)⟩ | refine gtr (k := ?_)))
    refine cmks (works_vc) Tryd.call9 0 [] [] [] ?_
    (repeat (first | refine gos (k := ?_) | refine fun (_ : _ = false) => ?_ | refine ⟨fun (_ : true = true) => ?_, fun h => absurd h (by decide)⟩ | refine gtr (k := ?_)))
    exact ⟨_, rfl, rfl, trivial⟩
end Go.Proofs.YtddocchgikaahaaDoor
