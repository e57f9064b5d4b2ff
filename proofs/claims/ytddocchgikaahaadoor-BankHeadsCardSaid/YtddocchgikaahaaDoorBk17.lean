/- Walks of lintellaw08: BankHeads. Conditions: none. -/
import Derived.Test.YtddocchgikaahaaDoorBk16
import Derived.Test.YtddocchgikaahaaDoorBp7
namespace Go.Proofs.YtddocchgikaahaaDoor
open Go.RowKit
set_option linter.unusedVariables false
set_option linter.unusedSimpArgs false
set_option maxRecDepth 100000
set_option maxHeartbeats 1500000
theorem same_own2 (a b : List UInt8) (n m : Nat) (hn : n ≤ a.length) (hm' : m ≤ b.length) (hb : a.length ≤ 140737488355328) (v0 v1 : Nat) : Spec Tryd.prog 22 [.own 0 v0 1 0 n, .own 1 v1 1 0 m] [⟨v0, .bytes a⟩, ⟨v1, .bytes b⟩] (pms (.val (.bool (decide (a.take n = b.take m)))) [⟨v0, .bytes a⟩, ⟨v1, .bytes b⟩] []) := by
  have := spec_ro (same_vc 0 0 ((a.drop 0).take n) ((b.drop 0).take m) (by rw [List.drop_zero, List.length_take]; omega)) trivial trivial (rows := [⟨v0, .bytes a⟩, ⟨v1, .bytes b⟩]) (args := [.own 0 v0 1 0 n, .own 1 v1 1 0 m]) (asL_cons (as_own (l := a) rfl (by omega)) (asL_cons (as_own (l := b) rfl (by omega)) asL_nil))
  rw [List.drop_zero, List.drop_zero] at this
  exact this
theorem spec_yes {s0 : FlS} {l : List OpB} {z : Nat} (h : Spec Tryd.prog 23 [.sl z 5 (opB z) opB0 l] [] (bgPost s0 l)) (hE : bgE s0 l l.length) : Spec Tryd.prog 23 [.sl z 5 (opB z) opB0 l] []
    (pms (.tup [.ref 12 2 6 0 0, .ref 19 2 3 0 0, .val (.bool true)]) [] [(12, ⟨2, fRow 13 3 (bgS s0 l l.length)⟩), (13, ⟨3, .bytes (bgS s0 l l.length).l⟩), (19, ⟨2, .obj [.ref 12 2 6 0 0, .val (.int .i64 0), .val (.int .i64 8)]⟩)]) :=
  spec_mono h fun _ _ q => q.1 hE
theorem spec_no {s0 : FlS} {l : List OpB} {z : Nat} (h : Spec Tryd.prog 23 [.sl z 5 (opB z) opB0 l] [] (bgPost s0 l)) (hE : ¬ bgE s0 l l.length) : ∃ j, Spec Tryd.prog 23 [.sl z 5 (opB z) opB0 l] []
    (pms (.tup [.ref 12 2 6 0 0, .val (.pointer none), .val (.bool true)]) [] [(12, ⟨2, fRow 13 3 (bgS s0 l j)⟩), (13, ⟨3, .bytes (bgS s0 l j).l⟩)]) := by
  obtain ⟨j, h1, h2, h3⟩ := bg_last s0 l _ hE
  exact ⟨j, spec_mono h fun _ _ q => q.2 j h1 h2 h3⟩
theorem spec_dead_b (s : FlS) (b : Bool) (h : s.dd = b) (v0 v1 : Nat) : Spec Tryd.prog 29 [.ref 0 v0 6 0 0] [⟨v0, .obj [.own 1 v1 1 0 s.l.length, .val (.int .i64 (s.k : Int)), .val (.int .i64 s.ar), .val (.int .i64 s.pt), .val (.bool s.dd), .val (.int .i64 s.wr)]⟩, ⟨v1, .bytes s.l⟩] (pst (.val (.bool b)) [⟨v0, .obj [.own 1 v1 1 0 s.l.length, .val (.int .i64 (s.k : Int)), .val (.int .i64 s.ar), .val (.int .i64 s.pt), .val (.bool s.dd), .val (.int .i64 s.wr)]⟩, ⟨v1, .bytes s.l⟩]) := by
  subst h
  exact spec_dead s v0 v1
theorem spec_on_e (s s' : FlS) (e : Int) (h : s.on = (e, s')) (v0 v1 : Nat) : Spec Tryd.prog 25 [.ref 0 v0 6 0 0] [⟨v0, .obj [.own 1 v1 1 0 s.l.length, .val (.int .i64 (s.k : Int)), .val (.int .i64 s.ar), .val (.int .i64 s.pt), .val (.bool s.dd), .val (.int .i64 s.wr)]⟩, ⟨v1, .bytes s.l⟩] (pst (.val (.int .i64 e)) [⟨v0, .obj [.own 1 v1 1 0 s'.l.length, .val (.int .i64 (s'.k : Int)), .val (.int .i64 s'.ar), .val (.int .i64 s'.pt), .val (.bool s'.dd), .val (.int .i64 s'.wr)]⟩, ⟨v1, .bytes s'.l⟩]) := by
  have := spec_on s v0 v1
  rw [h] at this
  exact this
theorem law_heads (l : List OpB) (ho : ∀ o ∈ l, OpBOk o) (z : Nat) (g n pt : Int) (hg : 0 ≤ g ∧ g ≤ 4294967295) (hn : 0 ≤ n ∧ n ≤ 65535) (hp : 0 ≤ pt ∧ pt ≤ 255) : Spec Tryd.prog 8 [.sl z 5 (opB z) opB0 l, .val (.int .u32 g), .val (.int .u16 n), .val (.int .u8 pt)] [] (pms (.val (.bool true)) [] []) := by
  obtain ⟨s0, hB0, hG0, hbeg⟩ := begun_ex
  refine spec_entry tbOk Tryd.func8 rfl Tryd.ntmps8 Tryd.results8 ?_
  (repeat (first | refine gos (k := ?_) | refine fun (_ : _ = false) => ?_ | refine ⟨fun (_ : true = true) => ?_, fun h => absurd h (by decide)⟩ | refine gtr (k := ?_)))
  refine ⟨fun h => ?_, fun h => ?_⟩
  · (repeat (first | refine gos (k := ?_) | refine fun (_ : _ = false) => ?_ | refine ⟨fun (_ : true = true) => ?_, fun h => absurd h (by decide)⟩ | refine gtr (k := ?_)))
    refine cmks (works_vc) Tryd.call9 0 [] [] [] ?_
    (repeat (first | refine gos (k := ?_) | refine fun (_ : _ = false) => ?_ | refine ⟨fun (_ : true = true) => ?_, fun h => absurd h (by decide)⟩ | refine gtr (k := ?_)))
    exact ⟨_, rfl, rfl, trivial⟩
  have hl : l.length ≤ 20 := by have := of_decide_eq_false h; omega
  have hb := hbeg l hl ho z
  have gl := bg_goes hG0 l l.length
  (repeat (first | refine gos (k := ?_) | refine fun (_ : _ = false) => ?_ | refine ⟨fun (_ : true = true) => ?_, fun h => absurd h (by decide)⟩ | refine gtr (k := ?_)))
  by_cases hE : bgE s0 l l.length
  · have hB := bg_BG hB0 l l.length hE
    have hy := spec_yes hb hE
    generalize bgS s0 l l.length = s at hy gl hB
    unfold fRow at hy
    refine cmks (hy) Tryd.call23 (hon := ⟨fun _ => ⟨trivial, trivial, trivial, trivial, trivial, trivial⟩, trivial⟩) 0 [0, 0, 0, 0, 0, 0, 0, 0, 0, 0, 0, 0, 30, 29, 0, 0, 0, 0, 0, 31] [0, 0, 0, 0, 0, 0, 0, 0, 0, 0, 0, 0, 1, 1, 0, 0, 0, 0, 0, 1] [12, 13, 19] ?_
    (repeat (first | refine gos (k := ?_) | refine fun (_ : _ = false) => ?_ | refine ⟨fun (_ : true = true) => ?_, fun h => absurd h (by decide)⟩ | refine gtr (k := ?_)))
    have hGl : s.l.length = 2048 := gl.l
    refine cmks (spec_image s (by omega) 3 4) Tryd.call21 2 [30, 29, 0, 0, 0, 0, 0, 0, 0, 0, 0, 40] [0, 0, 0, 0, 0, 0, 0, 0, 0, 0, 0, 1] [11] ?_
    (repeat (first | refine gos (k := ?_) | refine fun (_ : _ = false) => ?_ | refine ⟨fun (_ : true = true) => ?_, fun h => absurd h (by decide)⟩ | refine gtr (k := ?_)))
    obtain ⟨s1, e1, hcs⟩ := heads_law hB (N := n % 40) (part := pt) (g := g) (by omega) hp.1 hg
    have ga := gl.arm (n % 40) pt (by unfold I64; omega) (by unfold I64; omega)
    rw [e1] at ga
    refine cdet (spec_arm s (n % 40) pt (by unfold I64; omega) (by unfold I64; omega) 3 4) Tryd.call24 [30, 29] ?_
    rw [e1]
    (repeat (first | refine gos (k := ?_) | refine fun (_ : _ = false) => ?_ | refine ⟨fun (_ : true = true) => ?_, fun h => absurd h (by decide)⟩ | refine gtr (k := ?_)))
    have gf := ga.format 0 8 g
    have ex : ((0 : Nat) : Int) * ((s1.format 0 8 g).2.k : Int) + 12 = 12 := by simp
    refine cmks (format_vc s1 0 8 ga (by omega) lies8 g hg 3 3 4) Tryd.call12 3 [31, 30, 29] [0, 0, 0] [] ?_
    rcases hcs with ⟨s3, e2, hD⟩ | ⟨s2, s3, e2, e3, hD⟩ | ⟨s2, s3, e2, e3, q1, q2, q3, q4⟩
    · rw [e2]
      rw [e2] at gf
      (repeat (first | refine gos (k := ?_) | refine fun (_ : _ = false) => ?_ | refine ⟨fun (_ : true = true) => ?_, fun h => absurd h (by decide)⟩ | refine gtr (k := ?_)))
      (
                                        obtain ⟨d1, d2, d3, d4, d5⟩ := hD
                                        have gn := gf.on
                                        have hnl : s3.on.2.l.length = 2048 := gn.l
                                        have hon : s3.on = (0, s3.on.2) := by rw [← d2]
                                        generalize s3.on.2 = s4 at gn d3 d4 d5 hnl hon
                                        refine cdet (spec_dead_b s3 true d1 3 4) Tryd.call29 [30, 29] ?_
                                        (repeat (first | refine gos (k := ?_) | refine fun (_ : _ = false) => ?_ | refine ⟨fun (_ : true = true) => ?_, fun h => absurd h (by decide)⟩ | refine gtr (k := ?_)))
                                        refine cdet (spec_on_e s3 s4 0 hon 3 4) Tryd.call25 [30, 29] ?_
                                        (repeat (first | refine gos (k := ?_) | refine fun (_ : _ = false) => ?_ | refine ⟨fun (_ : true = true) => ?_, fun h => absurd h (by decide)⟩ | refine gtr (k := ?_)))
                                        refine cmks (bhead_vc s4 0 8 gn lies8 3 3 4) Tryd.call19 3 [31, 30, 29] [0, 0, 0] [] ?_
                                        rw [d4]
                                        generalize (s4.head 0).1 = hh
                                        rcases d5 with d5 | d5
                                        · rw [d5]
                                          (repeat (first | refine gos (k := ?_) | refine fun (_ : _ = false) => ?_ | refine ⟨fun (_ : true = true) => ?_, fun h => absurd h (by decide)⟩ | refine gtr (k := ?_)))
                                          (refine sts (k := ?_))
                                          refine draw_of (p := 0) tbOk hm [0, 1, 3, 7, 15, 31, 7, 71, 255, 511, 1023, 2047, 4095, 8191] [⟨0, false, false, []⟩, ⟨1, false, false, []⟩, ⟨2, false, false, []⟩, ⟨3, false, false, []⟩, ⟨6, false, false, []⟩, ⟨7, false, false, [40]⟩, ⟨4, true, true, [40, 125, 126, 127, 128, 129, 130, 131, 132, 8]⟩, ⟨5, true, false, [126, 127, 128, 129, 130, 131, 132, 8]⟩, ⟨8, true, true, [129, 130, 131, 132, 8]⟩, ⟨9, false, false, []⟩, ⟨10, false, false, []⟩, ⟨11, true, true, [132, 8]⟩, ⟨12, false, false, []⟩, ⟨13, false, false, []⟩] (by kernel_rfl) ?_
                                          (repeat (first | refine gos (k := ?_) | refine fun (_ : _ = false) => ?_ | refine ⟨fun (_ : true = true) => ?_, fun h => absurd h (by decide)⟩ | refine gtr (k := ?_)))
                                          intro _
                                          (repeat (first | refine gos (k := ?_) | refine fun (_ : _ = false) => ?_ | refine ⟨fun (_ : true = true) => ?_, fun h => absurd h (by decide)⟩ | refine gtr (k := ?_)))
                                          intro _
                                          (repeat (first | refine gos (k := ?_) | refine fun (_ : _ = false) => ?_ | refine ⟨fun (_ : true = true) => ?_, fun h => absurd h (by decide)⟩ | refine gtr (k := ?_)))
                                          refine cmks (works_vc) Tryd.call9 0 [] [] [] ?_
                                          (repeat (first | refine gos (k := ?_) | refine fun (_ : _ = false) => ?_ | refine ⟨fun (_ : true = true) => ?_, fun h => absurd h (by decide)⟩ | refine gtr (k := ?_)))
                                          exact ⟨_, rfl, rfl, trivial⟩
                                        · generalize hr : (s4.head 0).2.1 = rdy
                                          cases rdy with
                                          | false =>
                                            (repeat (first | refine gos (k := ?_) | refine fun (_ : _ = false) => ?_ | refine ⟨fun (_ : true = true) => ?_, fun h => absurd h (by decide)⟩ | refine gtr (k := ?_)))
                                            (refine sts (k := ?_))
                                            refine draw_of (p := 0) tbOk hm [0, 1, 3, 7, 15, 31, 7, 71, 255, 511, 1023, 2047, 4095, 8191] [⟨0, false, false, []⟩, ⟨1, false, false, []⟩, ⟨2, false, false, []⟩, ⟨3, false, false, []⟩, ⟨6, false, false, []⟩, ⟨7, false, false, [40]⟩, ⟨4, true, true, [40, 125, 126, 127, 128, 129, 130, 131, 132, 8]⟩, ⟨5, true, false, [126, 127, 128, 129, 130, 131, 132, 8]⟩, ⟨8, true, true, [129, 130, 131, 132, 8]⟩, ⟨9, false, false, []⟩, ⟨10, false, false, []⟩, ⟨11, true, true, [132, 8]⟩, ⟨12, false, false, []⟩, ⟨13, false, false, []⟩] (by kernel_rfl) ?_
                                            (repeat (first | refine gos (k := ?_) | refine fun (_ : _ = false) => ?_ | refine ⟨fun (_ : true = true) => ?_, fun h => absurd h (by decide)⟩ | refine gtr (k := ?_)))
                                            intro _
                                            (repeat (first | refine gos (k := ?_) | refine fun (_ : _ = false) => ?_ | refine ⟨fun (_ : true = true) => ?_, fun h => absurd h (by decide)⟩ | refine gtr (k := ?_)))
                                            intro _
                                            (repeat (first | refine gos (k := ?_) | refine fun (_ : _ = false) => ?_ | refine ⟨fun (_ : true = true) => ?_, fun h => absurd h (by decide)⟩ | refine gtr (k := ?_)))
                                            refine cmks (works_vc) Tryd.call9 0 [] [] [] ?_
                                            (repeat (first | refine gos (k := ?_) | refine fun (_ : _ = false) => ?_ | refine ⟨fun (_ : true = true) => ?_, fun h => absurd h (by decide)⟩ | refine gtr (k := ?_)))
                                            exact ⟨_, rfl, rfl, trivial⟩
                                          | true =>
                                          (repeat (first | refine gos (k := ?_) | refine fun (_ : _ = false) => ?_ | refine ⟨fun (_ : true = true) => ?_, fun h => absurd h (by decide)⟩ | refine gtr (k := ?_)))
                                          (refine sts (k := ?_))
                                          refine draw_of (p := 0) tbOk hm [0, 1, 3, 7, 15, 31, 7, 71, 255, 511, 1023, 2047, 4095, 8191] [⟨0, false, false, []⟩, ⟨1, false, false, []⟩, ⟨2, false, false, []⟩, ⟨3, false, false, []⟩, ⟨6, false, false, []⟩, ⟨7, false, false, [40]⟩, ⟨4, true, true, [40, 125, 126, 127, 128, 129, 130, 131, 132, 8]⟩, ⟨5, true, false, [126, 127, 128, 129, 130, 131, 132, 8]⟩, ⟨8, true, true, [129, 130, 131, 132, 8]⟩, ⟨9, false, false, []⟩, ⟨10, false, false, []⟩, ⟨11, true, true, [132, 8]⟩, ⟨12, false, false, []⟩, ⟨13, false, false, []⟩] (by kernel_rfl) ?_
                                          (repeat (first | refine gos (k := ?_) | refine fun (_ : _ = false) => ?_ | refine ⟨fun (_ : true = true) => ?_, fun h => absurd h (by decide)⟩ | refine gtr (k := ?_)))
                                          conv => whnf
                                          refine And.intro ?_ ?_
                                          · refine fun _ => ⟨by simp [gpOs, gpO, gpA, opnds, getA, getL], rfl, rfl, by decide, by decide, by omega⟩
                                          (repeat (first | refine gos (k := ?_) | refine fun (_ : _ = false) => ?_ | refine ⟨fun (_ : true = true) => ?_, fun h => absurd h (by decide)⟩ | refine gtr (k := ?_)))
                                          refine gcl (k := ?_)
                                          refine cmks (spec_image s4 (by omega) 3 4) Tryd.call21 2 [30, 29, 0, 0, 0, 0, 0, 0, 0, 0, 0, 124] [0, 0, 0, 0, 0, 0, 0, 0, 0, 0, 0, 1] [11] ?_
                                          (repeat (first | refine gos (k := ?_) | refine fun (_ : _ = false) => ?_ | refine ⟨fun (_ : true = true) => ?_, fun h => absurd h (by decide)⟩ | refine gtr (k := ?_)))
                                          conv => whnf
                                          refine And.intro ?_ ?_
                                          · refine fun _ => ⟨by simp [gpOs, gpO, gpA, opnds, getA, getL], rfl, rfl, by decide, by decide, by omega⟩
                                          (repeat (first | refine gos (k := ?_) | refine fun (_ : _ = false) => ?_ | refine ⟨fun (_ : true = true) => ?_, fun h => absurd h (by decide)⟩ | refine gtr (k := ?_)))
                                          refine gcl (k := ?_)
                                          refine cmks (same_own2 s4.l s.l 13 13 (by omega) (by omega) (by omega) 4 4) Tryd.call22 2 [124, 40] [0, 0] [] ?_
                                          rw [decide_eq_true d5]
                                          (repeat (first | refine gos (k := ?_) | refine fun (_ : _ = false) => ?_ | refine ⟨fun (_ : true = true) => ?_, fun h => absurd h (by decide)⟩ | refine gtr (k := ?_)))
                                          refine cmks (works_vc) Tryd.call9 0 [] [] [] ?_
                                          (repeat (first | refine gos (k := ?_) | refine fun (_ : _ = false) => ?_ | refine ⟨fun (_ : true = true) => ?_, fun h => absurd h (by decide)⟩ | refine gtr (k := ?_)))
                                          exact ⟨_, rfl, rfl, trivial⟩)
    · rw [e2]
      rw [e2] at gf
      have gp := gf.prog (((0 : Nat) : Int) * (s2.k : Int) + 12) [254]
      (repeat (first | refine gos (k := ?_) | refine fun (_ : _ = false) => ?_ | refine ⟨fun (_ : true = true) => ?_, fun h => absurd h (by decide)⟩ | refine gtr (k := ?_)))
      refine cmks (ready_vc s2 0 8 gf (by omega) lies8 3 3 4) Tryd.call13 3 [31, 30, 29] [0, 0, 0] [] ?_
      rw [e3]
      rw [e3] at gp
      (repeat (first | refine gos (k := ?_) | refine fun (_ : _ = false) => ?_ | refine ⟨fun (_ : true = true) => ?_, fun h => absurd h (by decide)⟩ | refine gtr (k := ?_)))
      (
                                        obtain ⟨d1, d2, d3, d4, d5⟩ := hD
                                        have gn := gp.on
                                        have hnl : s3.on.2.l.length = 2048 := gn.l
                                        have hon : s3.on = (0, s3.on.2) := by rw [← d2]
                                        generalize s3.on.2 = s4 at gn d3 d4 d5 hnl hon
                                        refine cdet (spec_dead_b s3 true d1 3 4) Tryd.call29 [30, 29] ?_
                                        (repeat (first | refine gos (k := ?_) | refine fun (_ : _ = false) => ?_ | refine ⟨fun (_ : true = true) => ?_, fun h => absurd h (by decide)⟩ | refine gtr (k := ?_)))
                                        refine cdet (spec_on_e s3 s4 0 hon 3 4) Tryd.call25 [30, 29] ?_
                                        (repeat (first | refine gos (k := ?_) | refine fun (_ : _ = false) => ?_ | refine ⟨fun (_ : true = true) => ?_, fun h => absurd h (by decide)⟩ | refine gtr (k := ?_)))
                                        refine cmks (bhead_vc s4 0 8 gn lies8 3 3 4) Tryd.call19 3 [31, 30, 29] [0, 0, 0] [] ?_
                                        rw [d4]
                                        generalize (s4.head 0).1 = hh
                                        rcases d5 with d5 | d5
                                        · rw [d5]
                                          (repeat (first | refine gos (k := ?_) | refine fun (_ : _ = false) => ?_ | refine ⟨fun (_ : true = true) => ?_, fun h => absurd h (by decide)⟩ | refine gtr (k := ?_)))
                                          (refine sts (k := ?_))
                                          refine draw_of (p := 0) tbOk hm [0, 1, 3, 7, 15, 31, 7, 71, 255, 511, 1023, 2047, 4095, 8191] [⟨0, false, false, []⟩, ⟨1, false, false, []⟩, ⟨2, false, false, []⟩, ⟨3, false, false, []⟩, ⟨6, false, false, []⟩, ⟨7, false, false, [40]⟩, ⟨4, true, true, [40, 125, 126, 127, 128, 129, 130, 131, 132, 8]⟩, ⟨5, true, false, [126, 127, 128, 129, 130, 131, 132, 8]⟩, ⟨8, true, true, [129, 130, 131, 132, 8]⟩, ⟨9, false, false, []⟩, ⟨10, false, false, []⟩, ⟨11, true, true, [132, 8]⟩, ⟨12, false, false, []⟩, ⟨13, false, false, []⟩] (by kernel_rfl) ?_
                                          (repeat (first | refine gos (k := ?_) | refine fun (_ : _ = false) => ?_ | refine ⟨fun (_ : true = true) => ?_, fun h => absurd h (by decide)⟩ | refine gtr (k := ?_)))
                                          intro _
                                          (repeat (first | refine gos (k := ?_) | refine fun (_ : _ = false) => ?_ | refine ⟨fun (_ : true = true) => ?_, fun h => absurd h (by decide)⟩ | refine gtr (k := ?_)))
                                          intro _
                                          (repeat (first | refine gos (k := ?_) | refine fun (_ : _ = false) => ?_ | refine ⟨fun (_ : true = true) => ?_, fun h => absurd h (by decide)⟩ | refine gtr (k := ?_)))
                                          refine cmks (works_vc) Tryd.call9 0 [] [] [] ?_
                                          (repeat (first | refine gos (k := ?_) | refine fun (_ : _ = false) => ?_ | refine ⟨fun (_ : true = true) => ?_, fun h => absurd h (by decide)⟩ | refine gtr (k := ?_)))
                                          exact ⟨_, rfl, rfl, trivial⟩
                                        · generalize hr : (s4.head 0).2.1 = rdy
                                          cases rdy with
                                          | false =>
                                            (repeat (first | refine gos (k := ?_) | refine fun (_ : _ = false) => ?_ | refine ⟨fun (_ : true = true) => ?_, fun h => absurd h (by decide)⟩ | refine gtr (k := ?_)))
                                            (refine sts (k := ?_))
                                            refine draw_of (p := 0) tbOk hm [0, 1, 3, 7, 15, 31, 7, 71, 255, 511, 1023, 2047, 4095, 8191] [⟨0, false, false, []⟩, ⟨1, false, false, []⟩, ⟨2, false, false, []⟩, ⟨3, false, false, []⟩, ⟨6, false, false, []⟩, ⟨7, false, false, [40]⟩, ⟨4, true, true, [40, 125, 126, 127, 128, 129, 130, 131, 132, 8]⟩, ⟨5, true, false, [126, 127, 128, 129, 130, 131, 132, 8]⟩, ⟨8, true, true, [129, 130, 131, 132, 8]⟩, ⟨9, false, false, []⟩, ⟨10, false, false, []⟩, ⟨11, true, true, [132, 8]⟩, ⟨12, false, false, []⟩, ⟨13, false, false, []⟩] (by kernel_rfl) ?_
                                            (repeat (first | refine gos (k := ?_) | refine fun (_ : _ = false) => ?_ | refine ⟨fun (_ : true = true) => ?_, fun h => absurd h (by decide)⟩ | refine gtr (k := ?_)))
                                            intro _
                                            (repeat (first | refine gos (k := ?_) | refine fun (_ : _ = false) => ?_ | refine ⟨fun (_ : true = true) => ?_, fun h => absurd h (by decide)⟩ | refine gtr (k := ?_)))
                                            intro _
                                            (repeat (first | refine gos (k := ?_) | refine fun (_ : _ = false) => ?_ | refine ⟨fun (_ : true = true) => ?_, fun h => absurd h (by decide)⟩ | refine gtr (k := ?_)))
                                            refine cmks (works_vc) Tryd.call9 0 [] [] [] ?_
                                            (repeat (first | refine gos (k := ?_) | refine fun (_ : _ = false) => ?_ | refine ⟨fun (_ : true = true) => ?_, fun h => absurd h (by decide)⟩ | refine gtr (k := ?_)))
                                            exact ⟨_, rfl, rfl, trivial⟩
                                          | true =>
                                          (repeat (first | refine gos (k := ?_) | refine fun (_ : _ = false) => ?_ | refine ⟨fun (_ : true = true) => ?_, fun h => absurd h (by decide)⟩ | refine gtr (k := ?_)))
                                          (refine sts (k := ?_))
                                          refine draw_of (p := 0) tbOk hm [0, 1, 3, 7, 15, 31, 7, 71, 255, 511, 1023, 2047, 4095, 8191] [⟨0, false, false, []⟩, ⟨1, false, false, []⟩, ⟨2, false, false, []⟩, ⟨3, false, false, []⟩, ⟨6, false, false, []⟩, ⟨7, false, false, [40]⟩, ⟨4, true, true, [40, 125, 126, 127, 128, 129, 130, 131, 132, 8]⟩, ⟨5, true, false, [126, 127, 128, 129, 130, 131, 132, 8]⟩, ⟨8, true, true, [129, 130, 131, 132, 8]⟩, ⟨9, false, false, []⟩, ⟨10, false, false, []⟩, ⟨11, true, true, [132, 8]⟩, ⟨12, false, false, []⟩, ⟨13, false, false, []⟩] (by kernel_rfl) ?_
                                          (repeat (first | refine gos (k := ?_) | refine fun (_ : _ = false) => ?_ | refine ⟨fun (_ : true = true) => ?_, fun h => absurd h (by decide)⟩ | refine gtr (k := ?_)))
                                          conv => whnf
                                          refine And.intro ?_ ?_
                                          · refine fun _ => ⟨by simp [gpOs, gpO, gpA, opnds, getA, getL], rfl, rfl, by decide, by decide, by omega⟩
                                          (repeat (first | refine gos (k := ?_) | refine fun (_ : _ = false) => ?_ | refine ⟨fun (_ : true = true) => ?_, fun h => absurd h (by decide)⟩ | refine gtr (k := ?_)))
                                          refine gcl (k := ?_)
                                          refine cmks (spec_image s4 (by omega) 3 4) Tryd.call21 2 [30, 29, 0, 0, 0, 0, 0, 0, 0, 0, 0, 124] [0, 0, 0, 0, 0, 0, 0, 0, 0, 0, 0, 1] [11] ?_
                                          (repeat (first | refine gos (k := ?_) | refine fun (_ : _ = false) => ?_ | refine ⟨fun (_ : true = true) => ?_, fun h => absurd h (by decide)⟩ | refine gtr (k := ?_)))
                                          conv => whnf
                                          refine And.intro ?_ ?_
                                          · refine fun _ => ⟨by simp [gpOs, gpO, gpA, opnds, getA, getL], rfl, rfl, by decide, by decide, by omega⟩
                                          (repeat (first | refine gos (k := ?_) | refine fun (_ : _ = false) => ?_ | refine ⟨fun (_ : true = true) => ?_, fun h => absurd h (by decide)⟩ | refine gtr (k := ?_)))
                                          refine gcl (k := ?_)
                                          refine cmks (same_own2 s4.l s.l 13 13 (by omega) (by omega) (by omega) 4 4) Tryd.call22 2 [124, 40] [0, 0] [] ?_
                                          rw [decide_eq_true d5]
                                          (repeat (first | refine gos (k := ?_) | refine fun (_ : _ = false) => ?_ | refine ⟨fun (_ : true = true) => ?_, fun h => absurd h (by decide)⟩ | refine gtr (k := ?_)))
                                          refine cmks (works_vc) Tryd.call9 0 [] [] [] ?_
                                          (repeat (first | refine gos (k := ?_) | refine fun (_ : _ = false) => ?_ | refine ⟨fun (_ : true = true) => ?_, fun h => absurd h (by decide)⟩ | refine gtr (k := ?_)))
                                          exact ⟨_, rfl, rfl, trivial⟩)
    · rw [e2]
      rw [e2] at gf
      have gp := gf.prog (((0 : Nat) : Int) * (s2.k : Int) + 12) [254]
      (repeat (first | refine gos (k := ?_) | refine fun (_ : _ = false) => ?_ | refine ⟨fun (_ : true = true) => ?_, fun h => absurd h (by decide)⟩ | refine gtr (k := ?_)))
      refine cmks (ready_vc s2 0 8 gf (by omega) lies8 3 3 4) Tryd.call13 3 [31, 30, 29] [0, 0, 0] [] ?_
      rw [e3]
      rw [e3] at gp
      (repeat (first | refine gos (k := ?_) | refine fun (_ : _ = false) => ?_ | refine ⟨fun (_ : true = true) => ?_, fun h => absurd h (by decide)⟩ | refine gtr (k := ?_)))
      refine cdet (spec_dead_b s3 false q1 3 4) Tryd.call29 [30, 29] ?_
      (repeat (first | refine gos (k := ?_) | refine fun (_ : _ = false) => ?_ | refine ⟨fun (_ : true = true) => ?_, fun h => absurd h (by decide)⟩ | refine gtr (k := ?_)))
      refine cdet (spec_on_e s3 s3 12 q2 3 4) Tryd.call25 [30, 29] ?_
      (repeat (first | refine gos (k := ?_) | refine fun (_ : _ = false) => ?_ | refine ⟨fun (_ : true = true) => ?_, fun h => absurd h (by decide)⟩ | refine gtr (k := ?_)))
      refine cmks (bhead_vc s3 0 8 gp lies8 3 3 4) Tryd.call19 3 [31, 30, 29] [0, 0, 0] [] ?_
      rw [q3]
      (repeat (first | refine gos (k := ?_) | refine fun (_ : _ = false) => ?_ | refine ⟨fun (_ : true = true) => ?_, fun h => absurd h (by decide)⟩ | refine gtr (k := ?_)))
      refine cmks (Scan_live s3 0 8 gp lies8 q1 0 (by rw [q4]; rfl) 3 3 4) Tryd.call30 (he := ⟨fun _ => ⟨rfl, rfl, trivial, trivial⟩, trivial, trivial⟩) 3 [31, 30, 29, 0, 0, 0, 0, 0, 0, 0, 0, 0, 0, 91, 92] [0, 0, 0, 0, 0, 0, 0, 0, 0, 0, 0, 0, 0, 1, 1] [13, 14] ?_
      rw [q4]
      (repeat (first | refine gos (k := ?_) | refine fun (_ : _ = false) => ?_ | refine ⟨fun (_ : true = true) => ?_, fun h => absurd h (by decide)⟩ | refine gtr (k := ?_)))
      refine gcl (k := ?_)
      refine cmks (works_vc) Tryd.call9 0 [] [] [] ?_
      (repeat (first | refine gos (k := ?_) | refine fun (_ : _ = false) => ?_ | refine ⟨fun (_ : true = true) => ?_, fun h => absurd h (by decide)⟩ | refine gtr (k := ?_)))
      refine ⟨_, ?_, rfl, trivial⟩
      simp [retV]
  · obtain ⟨j, hy⟩ := spec_no hb hE
    generalize bgS s0 l j = s at hy
    unfold fRow at hy
    refine cmks (hy) Tryd.call23 (hon := ⟨fun _ => ⟨trivial, trivial, trivial, trivial, trivial, trivial⟩, trivial⟩) 0 [0, 0, 0, 0, 0, 0, 0, 0, 0, 0, 0, 0, 30, 29] [0, 0, 0, 0, 0, 0, 0, 0, 0, 0, 0, 0, 1, 1] [12, 13] ?_
    (repeat (first | refine gos (k := ?_) | refine fun (_ : _ = false) => ?_ | refine ⟨fun (_ : true = true) => ?_, fun h => absurd h (by decide)⟩ | refine gtr (k := ?_)))
    refine cmks (works_vc) Tryd.call9 0 [] [] [] ?_
    (repeat (first | refine gos (k := ?_) | refine fun (_ : _ = false) => ?_ | refine ⟨fun (_ : true = true) => ?_, fun h => absurd h (by decide)⟩ | refine gtr (k := ?_)))
    exact ⟨_, rfl, rfl, trivial⟩
end Go.Proofs.YtddocchgikaahaaDoor
