/- Walks of lintellaw08: BankApart. Conditions: none. -/
import Derived.Test.YtddocchgikaahaaDoorBk24
namespace Go.Proofs.YtddocchgikaahaaDoor
open Go.RowKit
set_option linter.unusedVariables false
set_option linter.unusedSimpArgs false
set_option maxRecDepth 100000
set_option maxHeartbeats 1500000
/-- the adds to the other bank -/
def apS (s0 : FlS) (l : List OpB) : Nat → FlS
  | 0 => s0
  | i + 1 => ((apS s0 l i).add 4 4 (l.getD i opB0).key (l.getD i opB0).val).2
/-- what is done with the one -/
def dsS (s0 : FlS) (l : List OpB) : Nat → FlS
  | 0 => s0
  | i + 1 => if (l.getD i opB0).K = 8 then dsS s0 l i else doesB (dsS s0 l i) 0 4 (l.getD i opB0)
theorem getD_ok {l : List OpB} (ho : ∀ o ∈ l, OpBOk o) {i : Nat} (h : i < l.length) : OpBOk (l.getD i opB0) := by
  rw [List.getD_eq_getElem?_getD, List.getElem?_eq_getElem h]; exact ho _ (List.getElem_mem h)
theorem apS_goes {W : Int} {s0 : FlS} (g : Goes W 2048 256 s0) (l : List OpB) : ∀ i : Nat, Goes (W + i * 65804) 2048 256 (apS s0 l i)
  | 0 => g.mono (by omega)
  | i + 1 => ((apS_goes g l i).add 4 4 _ _).mono (by omega)
theorem lies4 : Lies 2048 256 0 4 := ⟨by decide, by decide, by decide, by decide⟩
theorem lies44 : Lies 2048 256 4 4 := ⟨by decide, by decide, by decide, by decide⟩
theorem dsS_goes {W : Int} {s0 : FlS} (g : Goes W 2048 256 s0) {l : List OpB} (ho : ∀ o ∈ l, OpBOk o) : ∀ i : Nat, i ≤ l.length → Goes (W + i * 65804) 2048 256 (dsS s0 l i) ∧ Kp 1024 s0 (dsS s0 l i)
  | 0, _ => ⟨g.mono (by omega), Kp.rfl'⟩
  | i + 1, h => by
    obtain ⟨h1, h2⟩ := dsS_goes g ho i (by omega)
    unfold dsS
    split
    · exact ⟨h1.mono (by omega), h2⟩
    · exact ⟨(h1.doesB lies4 (by decide) _ (getD_ok ho h)).mono (by omega), h2.trans (does_keep h1 lies4 rfl _)⟩
theorem law_apart (l r : List OpB) (ho : ∀ o ∈ l, OpBOk o) (hr : ∀ o ∈ r, OpBOk o) (z z' : Nat) : Spec Tryd.prog 7 [.sl z 5 (opB z) opB0 l, .sl z' 5 (opB z') opB0 r] [] (pms (.val (.bool true)) [] []) := by
  have g0 : Goes 0 2048 256 (FlS.new 8 256) := Goes.new 8 256 (by decide) (by decide)
  have hN := spec_new 8 256 (by decide) (by decide)
  obtain ⟨s1, s2, e1, e2, e3, e4, _, _⟩ := new_begins 8 256 4 4 9 (by decide) (by decide) (by decide)
  generalize FlS.new 8 256 = S at e1 g0 hN
  have g1 : Goes 20 2048 256 s1 := by have := g0.format 4 4 9; rw [e1] at this; exact this.mono (by decide)
  have g2 : Goes 21 2048 256 s2 := by have := g1.prog (((4 : Nat) : Int) * (s1.k : Int) + 12) [254]; rw [e2] at this; exact this
  refine spec_entry tbOk Tryd.func7 rfl Tryd.ntmps7 Tryd.results7 ?_
  (repeat (first | refine gos (k := ?_) | refine fun (_ : _ = false) => ?_ | refine ⟨fun (_ : true = true) => ?_, fun h => absurd h (by decide)⟩ | refine gtr (k := ?_)))
  refine cmks (vast_vc z 0 0 0 0 l) Tryd.call27 (hon := ⟨⟨trivial, trivial, trivial, trivial, trivial⟩, fun _ => ⟨trivial, trivial, trivial, trivial, trivial, trivial⟩, trivial⟩) 0 [] [] [] ?_
  cases hv : vastB 0 0 l with
  | true =>
    (repeat (first | refine gos (k := ?_) | refine fun (_ : _ = false) => ?_ | refine ⟨fun (_ : true = true) => ?_, fun h => absurd h (by decide)⟩ | refine gtr (k := ?_)))
    refine ⟨fun _ => ?_, fun h => absurd h (by simp)⟩
    (repeat (first | refine gos (k := ?_) | refine fun (_ : _ = false) => ?_ | refine ⟨fun (_ : true = true) => ?_, fun h => absurd h (by decide)⟩ | refine gtr (k := ?_)))
    refine cmks (works_vc) Tryd.call9 0 [] [] [] ?_
    (repeat (first | refine gos (k := ?_) | refine fun (_ : _ = false) => ?_ | refine ⟨fun (_ : true = true) => ?_, fun h => absurd h (by decide)⟩ | refine gtr (k := ?_)))
    exact ⟨_, rfl, rfl, trivial⟩
  | false =>
  have hl : l.length ≤ 80 := by
    unfold vastB at hv
    simp only [Bool.or_eq_false_iff, decide_eq_false_iff_not] at hv
    omega
  (repeat (first | refine gos (k := ?_) | refine fun (_ : _ = false) => ?_ | refine ⟨fun (_ : true = true) => ?_, fun h => absurd h (by decide)⟩ | refine gtr (k := ?_)))
  refine ⟨fun h => ?_, fun h => ?_⟩
  · (repeat (first | refine gos (k := ?_) | refine fun (_ : _ = false) => ?_ | refine ⟨fun (_ : true = true) => ?_, fun h => absurd h (by decide)⟩ | refine gtr (k := ?_)))
    refine cmks (works_vc) Tryd.call9 0 [] [] [] ?_
    (repeat (first | refine gos (k := ?_) | refine fun (_ : _ = false) => ?_ | refine ⟨fun (_ : true = true) => ?_, fun h => absurd h (by decide)⟩ | refine gtr (k := ?_)))
    exact ⟨_, rfl, rfl, trivial⟩
  have hrl : r.length ≤ 20 := by simp at h; omega
  (repeat (first | refine gos (k := ?_) | refine fun (_ : _ = false) => ?_ | refine ⟨fun (_ : true = true) => ?_, fun h => absurd h (by decide)⟩ | refine gtr (k := ?_)))
  refine cmks (hN) Tryd.call10 0 [0, 0, 0, 0, 0, 0, 0, 0, 0, 0, 0, 0, 0, 0, 0, 0, 0, 0, 0, 0, 0, 0, 0, 0, 29, 0, 0, 30] [0, 0, 0, 0, 0, 0, 0, 0, 0, 0, 0, 0, 0, 0, 0, 0, 0, 0, 0, 0, 0, 0, 0, 0, 1, 0, 0, 1] [27, 24] ?_
  (repeat (first | refine gos (k := ?_) | refine fun (_ : _ = false) => ?_ | refine ⟨fun (_ : true = true) => ?_, fun h => absurd h (by decide)⟩ | refine gtr (k := ?_)))
  refine cmks (at_vc S 0 4 g0 lies4 (by decide) 2 3) Tryd.call11 2 [30, 29, 0, 0, 0, 0, 0, 0, 0, 0, 0, 0, 0, 0, 0, 0, 0, 0, 0, 0, 0, 0, 0, 0, 0, 0, 0, 0, 0, 0, 0, 0, 0, 0, 0, 0, 0, 0, 0, 0, 0, 0, 0, 0, 0, 31] [0, 0, 0, 0, 0, 0, 0, 0, 0, 0, 0, 0, 0, 0, 0, 0, 0, 0, 0, 0, 0, 0, 0, 0, 0, 0, 0, 0, 0, 0, 0, 0, 0, 0, 0, 0, 0, 0, 0, 0, 0, 0, 0, 0, 0, 1] [45] ?_
  (repeat (first | refine gos (k := ?_) | refine fun (_ : _ = false) => ?_ | refine ⟨fun (_ : true = true) => ?_, fun h => absurd h (by decide)⟩ | refine gtr (k := ?_)))
  refine cmks (at_vc S 4 4 g0 lies44 (by decide) 2 3) Tryd.call11 2 [30, 29, 0, 0, 0, 0, 0, 0, 0, 0, 0, 0, 0, 0, 0, 0, 0, 0, 0, 0, 0, 0, 0, 0, 0, 0, 0, 0, 0, 0, 0, 0, 0, 0, 0, 0, 0, 0, 0, 0, 0, 0, 0, 0, 0, 32] [0, 0, 0, 0, 0, 0, 0, 0, 0, 0, 0, 0, 0, 0, 0, 0, 0, 0, 0, 0, 0, 0, 0, 0, 0, 0, 0, 0, 0, 0, 0, 0, 0, 0, 0, 0, 0, 0, 0, 0, 0, 0, 0, 0, 0, 1] [45] ?_
  (repeat (first | refine gos (k := ?_) | refine fun (_ : _ = false) => ?_ | refine ⟨fun (_ : true = true) => ?_, fun h => absurd h (by decide)⟩ | refine gtr (k := ?_)))
  refine gcl (k := ?_)
  refine cmks (format_vc S 4 4 g0 (by decide) lies44 9 (by decide) 2 2 3) Tryd.call12 3 [32, 30, 29] [0, 0, 0] [] ?_
  rw [e1]
  (repeat (first | refine gos (k := ?_) | refine fun (_ : _ = false) => ?_ | refine ⟨fun (_ : true = true) => ?_, fun h => absurd h (by decide)⟩ | refine gtr (k := ?_)))
  refine gcl (k := ?_)
  refine cmks (ready_vc s1 4 4 g1 (by decide) lies44 2 2 3) Tryd.call13 3 [32, 30, 29] [0, 0, 0] [] ?_
  rw [e2]
  (repeat (first | refine gos (k := ?_) | refine fun (_ : _ = false) => ?_ | refine ⟨fun (_ : true = true) => ?_, fun h => absurd h (by decide)⟩ | refine gtr (k := ?_)))
  (refine sts (k := ?_))
  conv => whnf
  refine loop_at (fun i : Nat => i ≤ r.length) (fun i => r.length - i) 0 [11, 56, 57, 58, 59, 60, 61, 62, 63, 64, 65, 66, 67, 68, 69, 70, 71, 72, 73, 74, 75] (fun i => [(11, .val (.int .i64 (i : Int)))])
    (fun i => [(30, ⟨2, .obj [.own 29 3 1 0 (apS s2 r i).l.length, .val (.int .i64 ((apS s2 r i).k : Int)), .val (.int .i64 (apS s2 r i).ar), .val (.int .i64 (apS s2 r i).pt), .val (.bool (apS s2 r i).dd), .val (.int .i64 (apS s2 r i).wr)]⟩), (29, ⟨3, .bytes (apS s2 r i).l⟩)]) 0 (Nat.zero_le _) ?_ ?_ ?_
  · ((try dsimp only [lpS, anyT, putT, setL]); (repeat (refine And.intro (by first | exact trivial | exact rfl) ?_)); (first | exact trivial | skip))
  · ((try dsimp only [lpS, deadH, putH, setL, Nat.reduceAdd, Nat.zero_add]); (repeat (refine And.intro (by first | exact rfl | exact trivial) ?_)); (first | exact trivial | skip))
  · rintro i v hi
    have gi := apS_goes g2 r i
    (dsimp only [lpS, anyT, putT, setL, deadH, putH, Nat.reduceAdd, Nat.zero_add])
    (repeat (first | refine gos (k := ?_) | refine fun (_ : _ = false) => ?_ | refine ⟨fun (_ : true = true) => ?_, fun h => absurd h (by decide)⟩ | refine gtr (k := ?_)))
    refine ⟨fun h => ?_, fun h => ?_⟩
    · have hlt : i < r.length := by have := of_decide_eq_true h; omega
      have hoi := getD_ok hr hlt
      have hSe : apS s2 r (i + 1) = ((apS s2 r i).add 4 4 (r.getD i opB0).key (r.getD i opB0).val).2 := rfl
      have hok := hoi.key
      have hov := hoi.val
      (repeat (first | refine gos (k := ?_) | refine fun (_ : _ = false) => ?_ | refine ⟨fun (_ : true = true) => ?_, fun h => absurd h (by decide)⟩ | refine gtr (k := ?_)))
      (refine sts (k := ?_))
      refine draw_of (p := 0) tbOk hm [0, 0, 0, 6, 14, 30, 62, 0, 0, 384, 896, 1920, 4094, 8191] [⟨0, false, false, []⟩, ⟨1, false, false, []⟩, ⟨2, false, false, []⟩, ⟨3, true, false, [62, 66, 67, 68, 69, 70, 71, 72, 73, 74, 75]⟩, ⟨4, true, false, [62, 67, 68, 69, 70, 71, 72, 73, 74, 75]⟩, ⟨5, true, false, [62, 68, 69, 70, 71, 72, 73, 74, 75]⟩, ⟨7, false, false, []⟩, ⟨8, false, false, []⟩, ⟨9, true, false, [62, 63, 64, 65, 66, 67, 68, 72, 73, 74, 75]⟩, ⟨10, true, false, [62, 63, 64, 65, 66, 67, 68, 73, 74, 75]⟩, ⟨11, true, false, [62, 63, 64, 65, 66, 67, 68, 74, 75]⟩, ⟨6, true, false, [62, 69, 70, 71, 72, 73, 74, 75]⟩, ⟨12, true, false, [62, 75]⟩, ⟨13, true, true, []⟩] (by kernel_rfl) ?_
      (repeat (first | refine gos (k := ?_) | refine fun (_ : _ = false) => ?_ | refine ⟨fun (_ : true = true) => ?_, fun h => absurd h (by decide)⟩ | refine gtr (k := ?_)))
      simp only [Int.toNat_natCast]
      generalize r.getD i opB0 = o at hSe hok hov
      refine cmks (twin8_vc z' o.key hok) Tryd.call16 (hz := fun r hr => absurd hr (Nat.not_lt_zero r)) (had := ⟨⟨_, rfl, Nat.lt_succ_self _⟩, trivial⟩) 0 [0, 0, 0, 68] [0, 0, 0, (v 68 + 1)] [3] ?_
      (repeat (first | refine gos (k := ?_) | refine fun (_ : _ = false) => ?_ | refine ⟨fun (_ : true = true) => ?_, fun h => absurd h (by decide)⟩ | refine gtr (k := ?_)))
      refine cmks (twin8_vc z' o.val hov) Tryd.call16 (hz := fun r hr => absurd hr (Nat.not_lt_zero r)) (had := ⟨⟨_, rfl, Nat.lt_succ_self _⟩, trivial⟩) 0 [0, 0, 0, 74] [0, 0, 0, (v 74 + 1)] [3] ?_
      (repeat (first | refine gos (k := ?_) | refine fun (_ : _ = false) => ?_ | refine ⟨fun (_ : true = true) => ?_, fun h => absurd h (by decide)⟩ | refine gtr (k := ?_)))
      refine cmks (add_own (apS s2 r i) 4 4 gi (by omega) lies44 o.key o.val o.key.length o.val.length rfl rfl (by omega) (by omega) 2 2 3 (2 + (v 68 + 1)) (2 + (v 74 + 1))) Tryd.call15 5 [32, 30, 29, 68, 74] [0, 0, 0, 0, 0] [] ?_
      rw [← hSe]
      (repeat (first | refine gos (k := ?_) | refine fun (_ : _ = false) => ?_ | refine ⟨fun (_ : true = true) => ?_, fun h => absurd h (by decide)⟩ | refine gtr (k := ?_)))
      refine back_at (i + 1) hlt (by show r.length - (i + 1) < r.length - i; omega) ?_ ?_
      · ((try dsimp only [lpS, anyT, putT, setL]); (repeat (refine And.intro (by first | exact trivial | exact rfl) ?_)); (first | exact trivial | skip))
      · ((try dsimp only [lpS, deadH, putH, setL, Nat.reduceAdd, Nat.zero_add]); (repeat (refine And.intro (by first | exact rfl | exact trivial) ?_)); (first | exact trivial | skip))
    · have hi : i = r.length := by have := of_decide_eq_false h; omega
      subst hi
      generalize apS s2 r r.length = s3 at gi
      clear g0 hN e1 g1 e2 g2
      have h3l := gi.l
      (repeat (first | refine gos (k := ?_) | refine fun (_ : _ = false) => ?_ | refine ⟨fun (_ : true = true) => ?_, fun h => absurd h (by decide)⟩ | refine gtr (k := ?_)))
      refine cmks (spec_image s3 (by omega) 2 3) Tryd.call21 2 [30, 29, 0, 0, 0, 0, 0, 0, 0, 0, 0, 77] [0, 0, 0, 0, 0, 0, 0, 0, 0, 0, 0, 1] [11] ?_
      (repeat (first | refine gos (k := ?_) | refine fun (_ : _ = false) => ?_ | refine ⟨fun (_ : true = true) => ?_, fun h => absurd h (by decide)⟩ | refine gtr (k := ?_)))
      have h3d : decide ((s3.l.length : Int) = 2048) = true := by rw [h3l]; rfl
      rw [h3d]
      (repeat (first | refine gos (k := ?_) | refine fun (_ : _ = false) => ?_ | refine ⟨fun (_ : true = true) => ?_, fun h => absurd h (by decide)⟩ | refine gtr (k := ?_)))
      (refine sts (k := ?_))
      conv => whnf
      refine loop_at (fun i : Nat => i ≤ l.length) (fun i => l.length - i) 0 [13, 81, 82, 83, 84, 85, 86, 87, 88, 89, 90, 91, 92, 93, 94, 95, 96, 97, 98, 99] (fun i => [(13, .val (.int .i64 (i : Int)))])
        (fun i => [(30, ⟨2, .obj [.own 29 3 1 0 (dsS s3 l i).l.length, .val (.int .i64 ((dsS s3 l i).k : Int)), .val (.int .i64 (dsS s3 l i).ar), .val (.int .i64 (dsS s3 l i).pt), .val (.bool (dsS s3 l i).dd), .val (.int .i64 (dsS s3 l i).wr)]⟩), (29, ⟨3, .bytes (dsS s3 l i).l⟩)]) 0 (Nat.zero_le _) ?_ ?_ ?_
      · ((try dsimp only [lpS, anyT, putT, setL]); (repeat (refine And.intro (by first | exact trivial | exact rfl) ?_)); (first | exact trivial | skip))
      · ((try dsimp only [lpS, deadH, putH, setL, Nat.reduceAdd, Nat.zero_add]); (repeat (refine And.intro (by first | exact rfl | exact trivial) ?_)); (first | exact trivial | skip))
      · rintro i v hi
        obtain ⟨gd, hkp⟩ := dsS_goes gi ho i hi
        (dsimp only [lpS, anyT, putT, setL, deadH, putH, Nat.reduceAdd, Nat.zero_add])
        (repeat (first | refine gos (k := ?_) | refine fun (_ : _ = false) => ?_ | refine ⟨fun (_ : true = true) => ?_, fun h => absurd h (by decide)⟩ | refine gtr (k := ?_)))
        refine ⟨fun h => ?_, fun h => ?_⟩
        · have hlt : i < l.length := by have := of_decide_eq_true h; omega
          have hoi := getD_ok ho hlt
          have hSe : dsS s3 l (i + 1) = if (l.getD i opB0).K = 8 then dsS s3 l i else doesB (dsS s3 l i) 0 4 (l.getD i opB0) := rfl
          (repeat (first | refine gos (k := ?_) | refine fun (_ : _ = false) => ?_ | refine ⟨fun (_ : true = true) => ?_, fun h => absurd h (by decide)⟩ | refine gtr (k := ?_)))
          simp only [Int.toNat_natCast]
          obtain ⟨o, hox⟩ : ∃ o, l.getD i opB0 = o := ⟨_, rfl⟩
          rw [hox] at hSe hoi
          simp only [hox]
          by_cases h8 : o.K = 8
          · rw [if_pos h8] at hSe
            have hd8 : decide (o.K = 8) = true := decide_eq_true h8
            rw [hd8]
            (repeat (first | refine gos (k := ?_) | refine fun (_ : _ = false) => ?_ | refine ⟨fun (_ : true = true) => ?_, fun h => absurd h (by decide)⟩ | refine gtr (k := ?_)))
            rw [← hSe]
            refine back_at (i + 1) hlt (by show l.length - (i + 1) < l.length - i; omega) ?_ ?_
            · ((try dsimp only [lpS, anyT, putT, setL]); (repeat (refine And.intro (by first | exact trivial | exact rfl) ?_)); (first | exact trivial | skip))
            · ((try dsimp only [lpS, deadH, putH, setL, Nat.reduceAdd, Nat.zero_add]); (repeat (refine And.intro (by first | exact rfl | exact trivial) ?_)); (first | exact trivial | skip))
          · rw [if_neg h8] at hSe
            have hd8 : decide (o.K = 8) = false := decide_eq_false h8
            rw [hd8]
            (repeat (first | refine gos (k := ?_) | refine fun (_ : _ = false) => ?_ | refine ⟨fun (_ : true = true) => ?_, fun h => absurd h (by decide)⟩ | refine gtr (k := ?_)))
            simp only [Int.toNat_natCast, hox]
            (repeat (first | refine gos (k := ?_) | refine fun (_ : _ = false) => ?_ | refine ⟨fun (_ : true = true) => ?_, fun h => absurd h (by decide)⟩ | refine gtr (k := ?_)))
            refine cmks (does8_vc (dsS s3 l i) 0 4 gd (by omega) (by decide) lies4 o hoi h8 z 2 2 3) Tryd.call28 3 [31, 30, 29] [0, 0, 0] [] ?_
            rw [← hSe]
            (repeat (first | refine gos (k := ?_) | refine fun (_ : _ = false) => ?_ | refine ⟨fun (_ : true = true) => ?_, fun h => absurd h (by decide)⟩ | refine gtr (k := ?_)))
            refine back_at (i + 1) hlt (by show l.length - (i + 1) < l.length - i; omega) ?_ ?_
            · ((try dsimp only [lpS, anyT, putT, setL]); (repeat (refine And.intro (by first | exact trivial | exact rfl) ?_)); (first | exact trivial | skip))
            · ((try dsimp only [lpS, deadH, putH, setL, Nat.reduceAdd, Nat.zero_add]); (repeat (refine And.intro (by first | exact rfl | exact trivial) ?_)); (first | exact trivial | skip))
        · have hi : i = l.length := by have := of_decide_eq_false h; omega
          subst hi
          generalize dsS s3 l l.length = s4 at gd hkp
          have h4l := gd.l
          (repeat (first | refine gos (k := ?_) | refine fun (_ : _ = false) => ?_ | refine ⟨fun (_ : true = true) => ?_, fun h => absurd h (by decide)⟩ | refine gtr (k := ?_)))
          refine cmks (spec_image s4 (by omega) 2 3) Tryd.call21 2 [30, 29, 0, 0, 0, 0, 0, 0, 0, 0, 0, 101] [0, 0, 0, 0, 0, 0, 0, 0, 0, 0, 0, 1] [11] ?_
          rw [h4l]
          (repeat (first | refine gos (k := ?_) | refine fun (_ : _ = false) => ?_ | refine ⟨fun (_ : true = true) => ?_, fun h => absurd h (by decide)⟩ | refine gtr (k := ?_)))
          (refine sts (k := ?_))
          refine draw_of (p := 0) tbOk hm [0, 1, 3, 7, 15, 31, 15, 79, 255, 511, 1023, 2047, 4095, 8191] [⟨0, false, false, []⟩, ⟨1, true, false, [104, 105, 106, 107, 108, 109, 110, 111, 112, 113, 114, 4]⟩, ⟨2, false, false, []⟩, ⟨3, false, false, []⟩, ⟨4, false, false, []⟩, ⟨5, true, false, [108, 109, 110, 111, 112, 113, 114, 4]⟩, ⟨6, false, false, []⟩, ⟨7, true, false, [106, 107, 110, 111, 112, 113, 114, 4]⟩, ⟨8, true, false, [111, 112, 113, 114, 4]⟩, ⟨9, false, false, []⟩, ⟨10, false, false, []⟩, ⟨11, true, false, [114, 4]⟩, ⟨12, false, false, []⟩, ⟨13, false, false, []⟩] (by kernel_rfl) ?_
          (repeat (first | refine gos (k := ?_) | refine fun (_ : _ = false) => ?_ | refine ⟨fun (_ : true = true) => ?_, fun h => absurd h (by decide)⟩ | refine gtr (k := ?_)))
          refine cmks (same_off s3.l s4.l 1024 ((s3.l.length : Int).toNat - Int.toNat 1024) 1024 (((2048 : Nat) : Int).toNat - Int.toNat 1024) (by rw [h3l]; decide) (by rw [h4l]; decide) (by omega) (decide_eq_true (by rw [hkp.1, h3l])) 4 4) Tryd.call22 2 [77, 101] [0, 0] [] ?_
          (repeat (first | refine gos (k := ?_) | refine fun (_ : _ = false) => ?_ | refine ⟨fun (_ : true = true) => ?_, fun h => absurd h (by decide)⟩ | refine gtr (k := ?_)))
          refine cmks (works_vc) Tryd.call9 0 [] [] [] ?_
          (repeat (first | refine gos (k := ?_) | refine fun (_ : _ = false) => ?_ | refine ⟨fun (_ : true = true) => ?_, fun h => absurd h (by decide)⟩ | refine gtr (k := ?_)))
          exact ⟨_, rfl, rfl, trivial⟩
end Go.Proofs.YtddocchgikaahaaDoor
