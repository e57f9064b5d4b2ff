/- Walks of lintellaw08: begun. Conditions: the premises of each law. -/
import Derived.Test.YtddocchgikaahaaDoorGp
namespace Go.Proofs.YtddocchgikaahaaDoor
open Go.RowKit
set_option linter.unusedVariables false
set_option linter.unusedSimpArgs false
set_option maxRecDepth 100000
set_option maxHeartbeats 1500000
/-- a flash's rows, where f and d stand -/
def fRow (d vd : Nat) (s : FlS) : Bd := .obj [.own d vd 1 0 s.l.length, .val (.int .i64 (s.k : Int)), .val (.int .i64 s.ar), .val (.int .i64 s.pt), .val (.bool s.dd), .val (.int .i64 s.wr)]
def bgPost (s0 : FlS) (l : List OpB) (X : AV) (H : List Ent) : Prop :=
  (bgE s0 l l.length → pms (.tup [.ref 12 2 6 0 0, .ref 19 2 3 0 0, .val (.bool true)]) [] [(12, ⟨2, fRow 13 3 (bgS s0 l l.length)⟩), (13, ⟨3, .bytes (bgS s0 l l.length).l⟩), (19, ⟨2, .obj [.ref 12 2 6 0 0, .val (.int .i64 0), .val (.int .i64 8)]⟩)] X H) ∧
  (∀ j, j < l.length → bgE s0 l j → bgC s0 l j ≠ 0 → pms (.tup [.ref 12 2 6 0 0, .val (.pointer none), .val (.bool true)]) [] [(12, ⟨2, fRow 13 3 (bgS s0 l j)⟩), (13, ⟨3, .bytes (bgS s0 l j).l⟩)] X H)
theorem bg_first {s0 : FlS} {l : List OpB} {i j : Nat} (hi : bgE s0 l i) (hi1 : bgC s0 l i ≠ 0) (hj : bgE s0 l j) (hj1 : bgC s0 l j ≠ 0) : i = j := by
  rcases Nat.lt_trichotomy i j with h | h | h
  · exact absurd (hj i h) hi1
  · exact h
  · exact absurd (hi j h) hj1
theorem bg_goes {s0 : FlS} (h : Goes 21 2048 256 s0) (l : List OpB) : ∀ i : Nat, Goes (21 + i * 65805) 2048 256 (bgS s0 l i)
  | 0 => h.mono (by omega)
  | i + 1 => by
    have ih := bg_goes h l i
    have h1 := ih.add 0 8 (l.getD i opB0).key (l.getD i opB0).val
    unfold bgS bgN
    split
    · exact (h1.kill 0 8 (i : Int)).mono (by omega)
    · exact h1.mono (by omega)
theorem lies8 : Lies 2048 256 0 8 := ⟨by decide, by decide, by decide, by decide⟩
theorem begun_ex : ∃ s0 : FlS, BG s0 0 ∧ Goes 21 2048 256 s0 ∧ ∀ (l : List OpB), l.length ≤ 20 → (∀ o ∈ l, OpBOk o) → ∀ z : Nat, Spec Tryd.prog 23 [.sl z 5 (opB z) opB0 l] [] (bgPost s0 l) := by
  obtain ⟨s1, s0, n1, n2, n3⟩ := bg_new
  have g0 : Goes 0 2048 256 (FlS.new 8 256) := Goes.new 8 256 (by decide) (by decide)
  have hN := spec_new 8 256 (by decide) (by decide)
  generalize FlS.new 8 256 = S at n1 g0 hN
  have g1 : Goes 20 2048 256 s1 := by have := g0.format 0 8 1; rw [n1] at this; exact this
  have g2 : Goes 21 2048 256 s0 := by have := g1.prog ((0 : Nat) * (s1.k : Int) + 12) [254]; rw [n2] at this; exact this
  refine ⟨s0, n3, g2, fun l hl ho z => ?_⟩
  refine spec_entry tbOk Tryd.func23 rfl Tryd.ntmps23 Tryd.results23 ?_
  (repeat (first | refine gos (k := ?_) | refine fun (_ : _ = false) => ?_ | refine ⟨fun (_ : true = true) => ?_, fun h => absurd h (by decide)⟩ | refine gtr (k := ?_)))
  refine cmks (hN) Tryd.call10 0 [0, 0, 0, 0, 0, 0, 0, 0, 0, 0, 0, 0, 0, 0, 0, 0, 0, 0, 0, 0, 0, 0, 0, 0, 13, 0, 0, 12] [0, 0, 0, 0, 0, 0, 0, 0, 0, 0, 0, 0, 0, 0, 0, 0, 0, 0, 0, 0, 0, 0, 0, 0, 1, 0, 0, 1] [27, 24] ?_
  (repeat (first | refine gos (k := ?_) | refine fun (_ : _ = false) => ?_ | refine ⟨fun (_ : true = true) => ?_, fun h => absurd h (by decide)⟩ | refine gtr (k := ?_)))
  refine cmks (at_vc S 0 8 g0 lies8 (by decide) 2 3) Tryd.call11 2 [12, 13, 0, 0, 0, 0, 0, 0, 0, 0, 0, 0, 0, 0, 0, 0, 0, 0, 0, 0, 0, 0, 0, 0, 0, 0, 0, 0, 0, 0, 0, 0, 0, 0, 0, 0, 0, 0, 0, 0, 0, 0, 0, 0, 0, 19] [0, 0, 0, 0, 0, 0, 0, 0, 0, 0, 0, 0, 0, 0, 0, 0, 0, 0, 0, 0, 0, 0, 0, 0, 0, 0, 0, 0, 0, 0, 0, 0, 0, 0, 0, 0, 0, 0, 0, 0, 0, 0, 0, 0, 0, 1] [45] ?_
  (repeat (first | refine gos (k := ?_) | refine fun (_ : _ = false) => ?_ | refine ⟨fun (_ : true = true) => ?_, fun h => absurd h (by decide)⟩ | refine gtr (k := ?_)))
  refine gcl (k := ?_)
  refine cmks (format_vc S 0 8 g0 (by decide) lies8 1 (by decide) 2 2 3) Tryd.call12 3 [19, 12, 13] [0, 0, 0] [] ?_
  rw [n1]
  (repeat (first | refine gos (k := ?_) | refine fun (_ : _ = false) => ?_ | refine ⟨fun (_ : true = true) => ?_, fun h => absurd h (by decide)⟩ | refine gtr (k := ?_)))
  refine gcl (k := ?_)
  refine cmks (ready_vc s1 0 8 g1 (by decide) lies8 2 2 3) Tryd.call13 3 [19, 12, 13] [0, 0, 0] [] ?_
  rw [n2]
  (repeat (first | refine gos (k := ?_) | refine fun (_ : _ = false) => ?_ | refine ⟨fun (_ : true = true) => ?_, fun h => absurd h (by decide)⟩ | refine gtr (k := ?_)))
  (refine sts (k := ?_))
  conv => whnf
  refine loop_at (fun i : Nat => i ≤ l.length ∧ bgE s0 l i ∧ BG (bgS s0 l i) i) (fun i => l.length - i) 0 [2, 3, 4, 8, 9, 33, 34, 35, 36, 37, 38, 39, 40, 41, 42, 43, 44, 45, 46, 47, 48, 49, 50, 51, 52, 53, 54, 55, 56, 57, 58, 59, 60, 61, 62, 63, 64, 65, 66, 67, 68, 69, 70] (fun i => [(2, .val (.pointer none)), (3, .val (.pointer none)), (4, .val (.bool false)), (8, .val (.int .i64 (i : Int)))])
    (fun i => [(12, ⟨2, .obj [.own 13 3 1 0 (bgS s0 l i).l.length, .val (.int .i64 ((bgS s0 l i).k : Int)), .val (.int .i64 (bgS s0 l i).ar), .val (.int .i64 (bgS s0 l i).pt), .val (.bool (bgS s0 l i).dd), .val (.int .i64 (bgS s0 l i).wr)]⟩), (13, ⟨3, .bytes (bgS s0 l i).l⟩), (19, ⟨2, .obj [.ref 12 2 6 0 0, .val (.int .i64 ((0 : Nat) : Int)), .val (.int .i64 ((8 : Nat) : Int))]⟩)]) 0 ⟨Nat.zero_le _, fun j hj => absurd hj (Nat.not_lt_zero j), n3⟩ ?_ ?_ ?_
  · ((try dsimp only [lpS, anyT, putT, setL]); (repeat (refine And.intro (by first | exact trivial | exact rfl) ?_)); (first | exact trivial | skip))
  · ((try dsimp only [lpS, deadH, putH, setL, Nat.reduceAdd, Nat.zero_add]); (repeat (refine And.intro (by first | exact rfl | exact trivial) ?_)); (first | exact trivial | skip))
  · rintro i v ⟨i1, i2, i3⟩
    have gi := bg_goes g2 l i
    (dsimp only [lpS, anyT, putT, setL, deadH, putH, Nat.reduceAdd, Nat.zero_add])
    (repeat (first | refine gos (k := ?_) | refine fun (_ : _ = false) => ?_ | refine ⟨fun (_ : true = true) => ?_, fun h => absurd h (by decide)⟩ | refine gtr (k := ?_)))
    refine ⟨fun h => ?_, fun h => ?_⟩
    · have hlt : i < l.length := by have := of_decide_eq_true h; omega
      have hoi : OpBOk (l.getD i opB0) := by rw [List.getD_eq_getElem?_getD, List.getElem?_eq_getElem hlt]; exact ho _ (List.getElem_mem hlt)
      have hst := bg_step i3 (l.getD i opB0)
      have hCe : bgC s0 l i = ((bgS s0 l i).add 0 8 (l.getD i opB0).key (l.getD i opB0).val).1 := rfl
      have hSe : bgS s0 l (i + 1) = bgN (bgS s0 l i) i (l.getD i opB0) := rfl
      rw [← hSe] at hst
      have hok := hoi.key
      have hov := hoi.val
      (repeat (first | refine gos (k := ?_) | refine fun (_ : _ = false) => ?_ | refine ⟨fun (_ : true = true) => ?_, fun h => absurd h (by decide)⟩ | refine gtr (k := ?_)))
      (refine sts (k := ?_))
      refine draw_of (p := 0) tbOk hm [0, 0, 0, 6, 14, 30, 62, 0, 0, 384, 896, 1920, 4094, 8191, 16383] [⟨0, false, false, []⟩, ⟨1, false, false, []⟩, ⟨2, false, false, []⟩, ⟨3, true, false, [39, 43, 44, 45, 46, 47, 48, 49, 50, 51, 52, 9]⟩, ⟨4, true, false, [39, 44, 45, 46, 47, 48, 49, 50, 51, 52, 9]⟩, ⟨5, true, false, [39, 45, 46, 47, 48, 49, 50, 51, 52, 9]⟩, ⟨7, false, false, []⟩, ⟨8, false, false, []⟩, ⟨9, true, false, [39, 40, 41, 42, 43, 44, 45, 49, 50, 51, 52, 9]⟩, ⟨10, true, false, [39, 40, 41, 42, 43, 44, 45, 50, 51, 52, 9]⟩, ⟨11, true, false, [39, 40, 41, 42, 43, 44, 45, 51, 52, 9]⟩, ⟨6, true, false, [39, 46, 47, 48, 49, 50, 51, 52, 9]⟩, ⟨12, true, false, [39, 52, 9]⟩, ⟨13, true, true, [9]⟩, ⟨14, false, false, []⟩] (by kernel_rfl) ?_
      (repeat (first | refine gos (k := ?_) | refine fun (_ : _ = false) => ?_ | refine ⟨fun (_ : true = true) => ?_, fun h => absurd h (by decide)⟩ | refine gtr (k := ?_)))
      simp only [Int.toNat_natCast]
      generalize l.getD i opB0 = o at hst hCe hSe hok hov
      refine cmks (twin8_vc z o.key hok) Tryd.call16 (hz := fun r hr => absurd hr (Nat.not_lt_zero r)) (had := ⟨⟨_, rfl, Nat.lt_succ_self _⟩, trivial⟩) 0 [0, 0, 0, 45] [0, 0, 0, (v 45 + 1)] [3] ?_
      (repeat (first | refine gos (k := ?_) | refine fun (_ : _ = false) => ?_ | refine ⟨fun (_ : true = true) => ?_, fun h => absurd h (by decide)⟩ | refine gtr (k := ?_)))
      refine cmks (twin8_vc z o.val hov) Tryd.call16 (hz := fun r hr => absurd hr (Nat.not_lt_zero r)) (had := ⟨⟨_, rfl, Nat.lt_succ_self _⟩, trivial⟩) 0 [0, 0, 0, 51] [0, 0, 0, (v 51 + 1)] [3] ?_
      (repeat (first | refine gos (k := ?_) | refine fun (_ : _ = false) => ?_ | refine ⟨fun (_ : true = true) => ?_, fun h => absurd h (by decide)⟩ | refine gtr (k := ?_)))
      refine cmks (add_own (bgS s0 l i) 0 8 gi (by omega) lies8 o.key o.val o.key.length o.val.length rfl rfl (by omega) (by omega) 2 2 3 (2 + (v 45 + 1)) (2 + (v 51 + 1))) Tryd.call15 5 [19, 12, 13, 45, 51] [0, 0, 0, 0, 0] [] ?_
      (repeat (first | refine gos (k := ?_) | refine fun (_ : _ = false) => ?_ | refine ⟨fun (_ : true = true) => ?_, fun h => absurd h (by decide)⟩ | refine gtr (k := ?_)))
      rcases hst with e | e | ⟨e0, ek, eb⟩
      · rw [e]
        rw [e] at hCe
        refine ⟨fun _ => ?_, fun h => absurd h (by simp)⟩
        (repeat (first | refine gos (k := ?_) | refine fun (_ : _ = false) => ?_ | refine ⟨fun (_ : true = true) => ?_, fun h => absurd h (by decide)⟩ | refine gtr (k := ?_)))
        refine ⟨fun hE => absurd (hE i hlt) (by rw [hCe]; simp), fun j hj1 hj2 hj3 => ?_⟩
        obtain rfl := bg_first i2 (by rw [hCe]; simp) hj2 hj3
        exact ⟨_, rfl, rfl, rfl, rfl, trivial⟩
      · rw [e]
        rw [e] at hCe
        refine ⟨fun _ => ?_, fun h => absurd h (by simp)⟩
        (repeat (first | refine gos (k := ?_) | refine fun (_ : _ = false) => ?_ | refine ⟨fun (_ : true = true) => ?_, fun h => absurd h (by decide)⟩ | refine gtr (k := ?_)))
        refine ⟨fun hE => absurd (hE i hlt) (by rw [hCe]; simp), fun j hj1 hj2 hj3 => ?_⟩
        obtain rfl := bg_first i2 (by rw [hCe]; simp) hj2 hj3
        exact ⟨_, rfl, rfl, rfl, rfl, trivial⟩
      have ga := gi.add 0 8 o.key o.val
      have hE1 : bgE s0 l (i + 1) := fun j hj => by
        rcases Nat.lt_or_eq_of_le (Nat.le_of_lt_succ hj) with h | h
        · exact i2 j h
        · rw [h, hCe]; exact e0
      unfold bgN at hSe
      rw [e0]
      refine ⟨fun h => absurd h (by decide), fun _ => ?_⟩
      generalize (bgS s0 l i).add 0 8 o.key o.val = T at *
      by_cases hodd : i % 2 = 1
      · have hm1 : (i : Int) % 2 = 1 := by omega
        rw [if_pos hodd] at hSe
        (repeat (first | refine gos (k := ?_) | refine fun (_ : _ = false) => ?_ | refine ⟨fun (_ : true = true) => ?_, fun h => absurd h (by decide)⟩ | refine gtr (k := ?_)))
        rw [decide_eq_true hm1]
        refine gcl (k := ?_)
        refine cmks (kill_vc T.2 0 8 ga (by omega) lies8 (i : Int) (by unfold I64; omega) 2 2 3) Tryd.call26 3 [19, 12, 13] [0, 0, 0] [] ?_
        rw [ek hodd, ← hSe]
        (repeat (first | refine gos (k := ?_) | refine fun (_ : _ = false) => ?_ | refine ⟨fun (_ : true = true) => ?_, fun h => absurd h (by decide)⟩ | refine gtr (k := ?_)))
        refine back_at (i + 1) ⟨hlt, hE1, eb⟩ (by show l.length - (i + 1) < l.length - i; omega) ?_ ?_
        · ((try dsimp only [lpS, anyT, putT, setL]); (repeat (refine And.intro (by first | exact trivial | exact rfl) ?_)); (first | exact trivial | skip))
        · ((try dsimp only [lpS, deadH, putH, setL, Nat.reduceAdd, Nat.zero_add]); (repeat (refine And.intro (by first | exact rfl | exact trivial) ?_)); (first | exact trivial | skip))
      · have hm1 : ¬ (i : Int) % 2 = 1 := by omega
        rw [if_neg hodd] at hSe
        rw [← hSe]
        (repeat (first | refine gos (k := ?_) | refine fun (_ : _ = false) => ?_ | refine ⟨fun (_ : true = true) => ?_, fun h => absurd h (by decide)⟩ | refine gtr (k := ?_)))
        intro _
        (repeat (first | refine gos (k := ?_) | refine fun (_ : _ = false) => ?_ | refine ⟨fun (_ : true = true) => ?_, fun h => absurd h (by decide)⟩ | refine gtr (k := ?_)))
        refine back_at (i + 1) ⟨hlt, hE1, eb⟩ (by show l.length - (i + 1) < l.length - i; omega) ?_ ?_
        · ((try dsimp only [lpS, anyT, putT, setL]); (repeat (refine And.intro (by first | exact trivial | exact rfl) ?_)); (first | exact trivial | skip))
        · ((try dsimp only [lpS, deadH, putH, setL, Nat.reduceAdd, Nat.zero_add]); (repeat (refine And.intro (by first | exact rfl | exact trivial) ?_)); (first | exact trivial | skip))
    · have hi : i = l.length := by have := of_decide_eq_false h; omega
      subst hi
      (repeat (first | refine gos (k := ?_) | refine fun (_ : _ = false) => ?_ | refine ⟨fun (_ : true = true) => ?_, fun h => absurd h (by decide)⟩ | refine gtr (k := ?_)))
      refine ⟨fun _ => ⟨_, rfl, rfl, rfl, rfl, rfl, trivial⟩, fun j hj1 hj2 hj3 => absurd (i2 j hj1) hj3⟩
theorem bg_last (s0 : FlS) (l : List OpB) : ∀ n : Nat, ¬ bgE s0 l n → ∃ j, j < n ∧ bgE s0 l j ∧ bgC s0 l j ≠ 0
  | 0, h => absurd (fun j hj => absurd hj (Nat.not_lt_zero j)) h
  | n + 1, h => by
    by_cases h1 : bgE s0 l n
    · by_cases h2 : bgC s0 l n = 0
      · refine absurd (fun j hj => ?_) h
        rcases Nat.lt_or_eq_of_le (Nat.le_of_lt_succ hj) with h3 | h3
        · exact h1 j h3
        · rw [h3]; exact h2
      · exact ⟨n, Nat.lt_succ_self n, h1, h2⟩
    · obtain ⟨j, j1, j2, j3⟩ := bg_last s0 l n h1
      exact ⟨j, by omega, j2, j3⟩
theorem bg_BG {s0 : FlS} (h0 : BG s0 0) (l : List OpB) : ∀ i : Nat, bgE s0 l i → BG (bgS s0 l i) i
  | 0, _ => h0
  | i + 1, h => by
    have ih := bg_BG h0 l i (fun j hj => h j (by omega))
    have hc : ((bgS s0 l i).add 0 8 (l.getD i opB0).key (l.getD i opB0).val).1 = 0 := h i (Nat.lt_succ_self i)
    rcases bg_step ih (l.getD i opB0) with e | e | ⟨_, _, e⟩
    · rw [e] at hc; exact absurd hc (by simp)
    · rw [e] at hc; exact absurd hc (by simp)
    · exact e
theorem same_own2 (a b : List UInt8) (n m : Nat) (hn : n ≤ a.length) (hm' : m ≤ b.length) (hb : a.length ≤ 140737488355328) (v0 v1 : Nat) : Spec Tryd.prog 22 [.own 0 v0 1 0 n, .own 1 v1 1 0 m] [⟨v0, .bytes a⟩, ⟨v1, .bytes b⟩] (pms (.val (.bool (decide (a.take n = b.take m)))) [⟨v0, .bytes a⟩, ⟨v1, .bytes b⟩] []) := by
  have := spec_ro (same_vc 0 0 ((a.drop 0).take n) ((b.drop 0).take m) (by rw [List.drop_zero, List.length_take]; omega)) trivial trivial (rows := [⟨v0, .bytes a⟩, ⟨v1, .bytes b⟩]) (args := [.own 0 v0 1 0 n, .own 1 v1 1 0 m]) (asL_cons (as_own (l := a) rfl (by omega)) (asL_cons (as_own (l := b) rfl (by omega)) asL_nil))
  rw [List.drop_zero, List.drop_zero] at this
  exact this
theorem spec_yes {s0 : FlS} {l : List OpB} {z : Nat} (h : Spec Tryd.prog 23 [.sl z 5 (opB z) opB0 l] [] (bgPost s0 l)) (hE : bgE s0 l l.length) : Spec Tryd.prog 23 [.sl z 5 (opB z) opB0 l] []
    (pms (.tup [.ref 12 2 6 0 0, .ref 19 2 3 0 0, .val (.bool true)]) [] [(12, ⟨2, fRow 13 3 (bgS s0 l l.length)⟩), (13, ⟨3, .bytes (bgS s0 l l.length).l⟩), (19, ⟨2, .obj [.ref 12 2 6 0 0, .val (.int .i64 0), .val (.int .i64 8)]⟩)]) :=
  spec_mono h fun _ _ q => q.1 hE
theorem spec_no {s0 : FlS} {l : List OpB} {z : Nat} (h : Spec Tryd.prog 23 [.sl z 5 (opB z) opB0 l] [] (bgPost s0 l)) (hE : ¬ bgE s0 l l.length) : ∃ j, Spec Tryd.prog 23 [.sl z 5 (opB z) opB0 l] []
    (pms (.tup [.ref 12 2 6 0 0, .val (.pointer none), .val (.bool true)]) [] [(12, ⟨2, fRow 13 3 (bgS s0 l j)⟩), (13, ⟨3, .bytes (bgS s0 l j).l⟩)]) := by
  obtain ⟨j, h1, h2, h3⟩ := bg_last s0 l _ hE
  exact ⟨j, spec_mono h fun _ _ q => q.2 j h1 h2 h3⟩
theorem spec_dead_b (s : FlS) (b : Bool) (h : s.dd = b) (v0 v1 : Nat) : Spec Tryd.prog 29 [.ref 0 v0 6 0 0] [⟨v0, .obj [.own 1 v1 1 0 s.l.length, .val (.int .i64 (s.k : Int)), .val (.int .i64 s.ar), .val (.int .i64 s.pt), .val (.bool s.dd), .val (.int .i64 s.wr)]⟩, ⟨v1, .bytes s.l⟩] (pst (.val (.bool b)) [⟨v0, .obj [.own 1 v1 1 0 s.l.length, .val (.int .i64 (s.k : Int)), .val (.int .i64 s.ar), .val (.int .i64 s.pt), .val (.bool s.dd), .val (.int .i64 s.wr)]⟩, ⟨v1, .bytes s.l⟩]) := by
  subst h
  exact spec_dead s v0 v1
theorem spec_on_e (s s' : FlS) (e : Int) (h : s.on = (e, s')) (v0 v1 : Nat) : Spec Tryd.prog 25 [.ref 0 v0 6 0 0] [⟨v0, .obj [.own 1 v1 1 0 s.l.length, .val (.int .i64 (s.k : Int)), .val (.int .i64 s.ar), .val (.int .i64 s.pt), .val (.bool s.dd), .val (.int .i64 s.wr)]⟩, ⟨v1, .bytes s.l⟩] (pst (.val (.int .i64 e)) [⟨v0, .obj [.own 1 v1 1 0 s'.l.length, .val (.int .i64 (s'.k : Int)), .val (.int .i64 s'.ar), .val (.int .i64 s'.pt), .val (.bool s'.dd), .val (.int .i64 s'.wr)]⟩, ⟨v1, .bytes s'.l⟩]) := by
  have := spec_on s v0 v1
  rw [h] at this
  exact this
end Go.Proofs.YtddocchgikaahaaDoor
