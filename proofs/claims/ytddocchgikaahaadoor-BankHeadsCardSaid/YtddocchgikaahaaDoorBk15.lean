/- Walks of lintellaw08: vast; the law of no bank. Conditions: none. -/
import Derived.Test.YtddocchgikaahaaDoorBk14
namespace Go.Proofs.YtddocchgikaahaaDoor
open Go.RowKit
set_option linter.unusedVariables false
set_option linter.unusedSimpArgs false
set_option maxRecDepth 100000
set_option maxHeartbeats 1500000
/-- an own slice, as a slice in a zone -/
theorem as_slG {rows : List Ent} {r ver sz n : Nat} {α β : Type} {f : α → List AV} {d : α} {l0 : List α} {g : β → List AV} {d' : β} {ls : List β} (he : getL rows r = some ⟨ver, .row sz f d l0⟩) (hn : n = l0.length) (hl : ls.length = n)
    (hel : ∀ (i : Nat) (x : α) (y : β), l0[i]? = some x → ls[i]? = some y → AsL rows (f x) (g y)) : As rows (.own r ver sz 0 n) (.sl 0 sz g d' ls) := fun E E0 w v hr hz h => by
  rw [getL_eq] at he
  simp only [Go.Proofs.YtddocchgikaahaaDoor.rep] at h ⊢
  obtain ⟨a, c, rfl, h2, h3, h4, h5⟩ := h.2 (hr.ver r _ he).symm
  refine ⟨a, n, c, rfl, hl.symm, h2, h3, h4, fun i x hx => ?_⟩
  have hi := (List.getElem?_eq_some_iff.1 hx).1
  obtain ⟨hna, rfl, _⟩ := h5.resolve_left (by omega)
  have hliv : Liv E r ⟨ver, .row sz f d l0⟩ := ⟨rfl, hna⟩
  obtain ⟨cur, T, lo, hi', g1, g2, g3, g4⟩ := (hr.ent r _ he hliv).blk rfl
  have hi0 : i < l0.length := by omega
  obtain ⟨cs, k1, k2, k3⟩ := g4 i (f l0[i]) (by simp only [Bd.at]; rw [List.getElem?_eq_getElem hi0]; rfl)
  refine ⟨_, _, cs, rfl, (hz 0 _).2 ⟨rfl, hr.lt he hliv⟩, k1, hel i _ x (List.getElem?_eq_getElem hi0) hx E E0 w cs hr hz k2, fun j u hu => ?_⟩
  rw [cell_of_row w _ _ cur T (lo, hi') g1, Nat.zero_mul, Nat.zero_add]
  exact k3 j u hu
/-- what is done, as the caller hands it in -/
structure OpB where
  K : Int
  n : Int
  p : Int
  key : List UInt8
  val : List UInt8
def opB (z : Nat) (o : OpB) : List AV := [.val (.int .i64 o.K), .val (.int .i64 o.n), .val (.int .i64 o.p), .bs z o.key, .bs z o.val]
def opB0 : OpB := ⟨0, 0, 0, [], []⟩
structure OpBOk (o : OpB) : Prop where
  K : I64 o.K
  n : I64 o.n
  p : I64 o.p
  key : o.key.length ≤ 140737488355328
  val : o.val.length ≤ 140737488355328
def sumV : List OpB → Int
  | [] => 0
  | o :: l => min (o.key.length : Int) 262144 + min (o.val.length : Int) 262144 + sumV l
theorem sumV_snoc (o : OpB) : ∀ l, sumV (l ++ [o]) = sumV l + (min (o.key.length : Int) 262144 + min (o.val.length : Int) 262144)
  | [] => by simp [sumV]
  | x :: l => by
    have := sumV_snoc o l
    simp only [List.cons_append, sumV, this]; omega
theorem sumV_nonneg : ∀ l, 0 ≤ sumV l
  | [] => Int.le_refl _
  | o :: l => by have := sumV_nonneg l; simp only [sumV]; omega
theorem sumV_take {l : List OpB} {i : Nat} (h : i < l.length) : sumV (l.take (i + 1)) = sumV (l.take i) + (min ((l.getD i opB0).key.length : Int) 262144 + min ((l.getD i opB0).val.length : Int) 262144) := by
  rw [List.take_succ_eq_append_getElem h, sumV_snoc, List.getD_eq_getElem?_getD, List.getElem?_eq_getElem h]; rfl
theorem sumV_le (l : List OpB) (i : Nat) : sumV (l.take i) ≤ sumV l := by
  have key : ∀ (a b : List OpB), sumV (a ++ b) = sumV a + sumV b := by
    intro a b
    induction a with
    | nil => simp [sumV]
    | cons x a ih => simp only [List.cons_append, sumV, ih]; omega
  have h := congrArg sumV (List.take_append_drop i l)
  rw [key] at h
  have := sumV_nonneg (l.drop i)
  omega
def vastB (s k : Int) (l : List OpB) : Bool := decide (80 < l.length ∨ 8 < s ∨ 2048 < k) || decide (131072 < sumV l)
theorem vast_vc (z : Nat) (s k a c : Int) (l : List OpB) : Spec Tryd.prog 27 [.agg [.val (.int .i64 s), .val (.int .i64 k), .val (.int .i64 a), .val (.int .i64 c)], .sl z 5 (opB z) opB0 l] [] (pms (.val (.bool (vastB s k l))) [] []) := by
  refine spec_entry tbOk Tryd.func27 rfl Tryd.ntmps27 Tryd.results27 ?_
  (repeat (first | refine gos (k := ?_) | refine fun (_ : _ = false) => ?_ | refine ⟨fun (_ : true = true) => ?_, fun h => absurd h (by decide)⟩ | refine gtr (k := ?_)))
  refine ⟨fun h => ?_, fun h => ?_⟩
  · have hv : vastB s k l = true := by
      simp only [vastB, Bool.or_eq_true, decide_eq_true_eq] at h ⊢
      omega
    rw [hv]
    (repeat (first | refine gos (k := ?_) | refine fun (_ : _ = false) => ?_ | refine ⟨fun (_ : true = true) => ?_, fun h => absurd h (by decide)⟩ | refine gtr (k := ?_)))
    exact ⟨_, rfl, rfl, trivial⟩
  have hn : ¬ (80 < l.length ∨ 8 < s ∨ 2048 < k) := by
    simp only [Bool.or_eq_false_iff, decide_eq_false_iff_not] at h
    omega
  have hv2 : vastB s k l = decide (131072 < sumV l) := by unfold vastB; rw [decide_eq_false hn, Bool.false_or]
  rw [hv2]
  clear hv2
  (repeat (first | refine gos (k := ?_) | refine fun (_ : _ = false) => ?_ | refine ⟨fun (_ : true = true) => ?_, fun h => absurd h (by decide)⟩ | refine gtr (k := ?_)))
  (refine sts (k := ?_))
  conv => whnf
  refine loop_at (fun i : Nat => i ≤ l.length ∧ sumV (l.take i) ≤ 131072) (fun i => l.length - i) 0 [4, 5, 6, 20, 21, 22, 23, 24, 25, 26, 27, 28, 29, 30, 31, 32, 33, 34, 35, 36, 37, 38, 39, 40, 41, 42, 43, 44] (fun i => [(4, .val (.bool false)), (5, .val (.int .i64 (sumV (l.take i)))), (6, .val (.int .i64 i))]) (fun i => []) 0 ⟨Nat.zero_le _, by simp [sumV]⟩ ?_ ?_ ?_
  · ((try dsimp only [lpS, anyT, putT, setL]); (repeat (refine And.intro (by first | exact trivial | exact rfl) ?_)); (first | exact trivial | skip))
  · ((try dsimp only [lpS, deadH, putH, setL, Nat.reduceAdd, Nat.zero_add]); (repeat (refine And.intro (by first | exact rfl | exact trivial) ?_)); (first | exact trivial | skip))
  · rintro i v ⟨i1, i2⟩
    have i0 := sumV_nonneg (l.take i)
    (dsimp only [lpS, anyT, putT, setL, deadH, putH, Nat.reduceAdd, Nat.zero_add])
    (repeat (first | refine gos (k := ?_) | refine fun (_ : _ = false) => ?_ | refine ⟨fun (_ : true = true) => ?_, fun h => absurd h (by decide)⟩ | refine gtr (k := ?_)))
    refine ⟨fun h => ?_, fun h => ?_⟩
    · have hlt : i < l.length := by have := of_decide_eq_true h; omega
      have hs := sumV_take hlt
      have hs0 := sumV_nonneg (l.take (i + 1))
      (repeat (first | refine gos (k := ?_) | refine fun (_ : _ = false) => ?_ | refine ⟨fun (_ : true = true) => ?_, fun h => absurd h (by decide)⟩ | refine gtr (k := ?_)))
      (refine sts (k := ?_))
      refine draw_of (p := 0) tbOk hm [0, 0, 0, 6, 14, 30, 62, 126, 255, 0, 0, 1536, 3584, 7680, 15872, 32256, 65535, 131071] [⟨0, false, false, []⟩, ⟨1, false, false, []⟩, ⟨2, false, false, []⟩, ⟨3, true, false, [26, 30, 31, 32, 33, 34, 35, 36, 37, 38, 39, 40, 41, 42, 5]⟩, ⟨4, true, false, [26, 31, 32, 33, 34, 35, 36, 37, 38, 39, 40, 41, 42, 5]⟩, ⟨5, true, false, [26, 32, 33, 34, 35, 36, 37, 38, 39, 40, 41, 42, 5]⟩, ⟨6, true, false, [26, 33, 34, 35, 36, 37, 38, 39, 40, 41, 42, 5]⟩, ⟨7, false, false, []⟩, ⟨8, false, false, []⟩, ⟨9, false, false, []⟩, ⟨10, false, false, []⟩, ⟨11, true, false, [26, 27, 28, 29, 30, 31, 32, 33, 34, 38, 39, 40, 41, 42, 5]⟩, ⟨12, true, false, [26, 27, 28, 29, 30, 31, 32, 33, 34, 39, 40, 41, 42, 5]⟩, ⟨13, true, false, [26, 27, 28, 29, 30, 31, 32, 33, 34, 40, 41, 42, 5]⟩, ⟨14, true, false, [26, 27, 28, 29, 30, 31, 32, 33, 34, 41, 42, 5]⟩, ⟨15, false, false, []⟩, ⟨16, false, false, []⟩, ⟨17, false, false, []⟩] (by kernel_rfl) ?_
      (repeat (first | refine gos (k := ?_) | refine fun (_ : _ = false) => ?_ | refine ⟨fun (_ : true = true) => ?_, fun h => absurd h (by decide)⟩ | refine gtr (k := ?_)))
      simp only [Bool.false_eq_true, if_false, Int.toNat_natCast]
      (repeat (first | refine gos (k := ?_) | refine fun (_ : _ = false) => ?_ | refine ⟨fun (_ : true = true) => ?_, fun h => absurd h (by decide)⟩ | refine gtr (k := ?_)))
      simp only [Bool.false_eq_true, if_false, Int.toNat_natCast]
      (repeat (first | refine gos (k := ?_) | refine fun (_ : _ = false) => ?_ | refine ⟨fun (_ : true = true) => ?_, fun h => absurd h (by decide)⟩ | refine gtr (k := ?_)))
      have hle := sumV_le l (i + 1)
      have hsum : sumV (l.take i) + min ((l.getD i opB0).key.length : Int) 262144 + min ((l.getD i opB0).val.length : Int) 262144 = sumV (l.take (i + 1)) := by rw [hs]; omega
      rw [hsum]
      refine ⟨fun h => ?_, fun h => ?_⟩
      · have hb := of_decide_eq_true h
        (repeat (first | refine gos (k := ?_) | refine fun (_ : _ = false) => ?_ | refine ⟨fun (_ : true = true) => ?_, fun h => absurd h (by decide)⟩ | refine gtr (k := ?_)))
        rw [decide_eq_true (by omega : 131072 < sumV l)]
        exact ⟨_, rfl, rfl, trivial⟩
      · have hb := of_decide_eq_false h
        (repeat (first | refine gos (k := ?_) | refine fun (_ : _ = false) => ?_ | refine ⟨fun (_ : true = true) => ?_, fun h => absurd h (by decide)⟩ | refine gtr (k := ?_)))
        refine back_at (i + 1) ⟨hlt, by omega⟩ (by show l.length - (i + 1) < l.length - i; omega) ?_ ?_
        · ((try dsimp only [lpS, anyT, putT, setL]); (repeat (refine And.intro (by first | exact trivial | exact rfl) ?_)); (first | exact trivial | skip))
        · ((try dsimp only [lpS, deadH, putH, setL, Nat.reduceAdd, Nat.zero_add]); (repeat (refine And.intro (by first | exact rfl | exact trivial) ?_)); (first | exact trivial | skip))
    · (repeat (first | refine gos (k := ?_) | refine fun (_ : _ = false) => ?_ | refine ⟨fun (_ : true = true) => ?_, fun h => absurd h (by decide)⟩ | refine gtr (k := ?_)))
      have hi : i = l.length := by have := of_decide_eq_false h; omega
      subst hi
      rw [List.take_length] at i2
      rw [decide_eq_false (by omega : ¬ 131072 < sumV l)]
      exact ⟨_, rfl, rfl, trivial⟩
theorem opB_as (rows : List Ent) (z : Nat) (o : OpB) : AsL rows (opB z o) (opB 0 o) := asL_cons as_val (asL_cons as_val (asL_cons as_val (asL_cons as_bs (asL_cons as_bs asL_nil))))
theorem vast_own (o : OpB) (v : Nat) : Spec Tryd.prog 27 [.agg [.val (.int .i64 0), .val (.int .i64 0), .val (.int .i64 0), .val (.int .i64 0)], .own 0 v 5 0 1] [⟨v, .row 5 (opB 0) opB0 [o]⟩] (pms (.val (.bool (vastB 0 0 [o]))) [⟨v, .row 5 (opB 0) opB0 [o]⟩] []) :=
  spec_ro (vast_vc 0 0 0 0 0 [o]) trivial trivial (rows := [⟨v, .row 5 (opB 0) opB0 [o]⟩]) (args := [.agg [.val (.int .i64 0), .val (.int .i64 0), .val (.int .i64 0), .val (.int .i64 0)], .own 0 v 5 0 1])
    (asL_cons (as_agg (asL_cons as_val (asL_cons as_val (asL_cons as_val (asL_cons as_val asL_nil))))) (asL_cons (as_slG (l0 := [o]) rfl rfl rfl fun i x y hx hy => by
      rw [hx] at hy; cases hy; exact opB_as _ 0 _) asL_nil))
theorem law_nil (o : OpB) (ho : OpBOk o) (first count : Int) : Spec Tryd.prog 6 [.agg (opB 0 o), .val (.int .i64 first), .val (.int .i64 count)] [] (pms (.val (.bool true)) [] []) := by
  obtain ⟨K, n, p, key, val⟩ := o
  have hk := ho.key
  have hv := ho.val
  have hn := ho.n
  simp only at hk hv hn
  refine spec_entry tbOk Tryd.func6 rfl Tryd.ntmps6 Tryd.results6 ?_
  unfold opB
  (repeat (first | refine gos (k := ?_) | refine fun (_ : _ = false) => ?_ | refine ⟨fun (_ : true = true) => ?_, fun h => absurd h (by decide)⟩ | refine gtr (k := ?_)))
  refine cmksW (vast_own ⟨K, n, p, key, val⟩ 1) Tryd.call27 (hr2 := ⟨fun _ => ⟨trivial, trivial, trivial, trivial, trivial, trivial⟩, trivial⟩) 1 [15] [0] [] ?_ ?_
  · exact ⟨⟨fun _ => ⟨trivial, trivial, trivial, trivial, trivial, trivial⟩, _, rfl, WeakE.row 1 5 rfl⟩, trivial⟩
  (repeat (first | refine gos (k := ?_) | refine fun (_ : _ = false) => ?_ | refine ⟨fun (_ : true = true) => ?_, fun h => absurd h (by decide)⟩ | refine gtr (k := ?_)))
  refine ⟨fun h => ?_, fun h => ?_⟩
  · (repeat (first | refine gos (k := ?_) | refine fun (_ : _ = false) => ?_ | refine ⟨fun (_ : true = true) => ?_, fun h => absurd h (by decide)⟩ | refine gtr (k := ?_)))
    refine cmks (works_vc) Tryd.call9 0 [] [] [] ?_
    (repeat (first | refine gos (k := ?_) | refine fun (_ : _ = false) => ?_ | refine ⟨fun (_ : true = true) => ?_, fun h => absurd h (by decide)⟩ | refine gtr (k := ?_)))
    exact ⟨_, rfl, rfl, trivial⟩
  (repeat (first | refine gos (k := ?_) | refine fun (_ : _ = false) => ?_ | refine ⟨fun (_ : true = true) => ?_, fun h => absurd h (by decide)⟩ | refine gtr (k := ?_)))
  refine cdet (at_nil first count) Tryd.call11 [] ?_
  (repeat (first | refine gos (k := ?_) | refine fun (_ : _ = false) => ?_ | refine ⟨fun (_ : true = true) => ?_, fun h => absurd h (by decide)⟩ | refine gtr (k := ?_)))
  refine cmks (does_nil K n p hn 0 0 key val hk hv _ rfl) Tryd.call28 0 [] [] [] ?_
  by_cases hK : 0 ≤ K ∧ K ≤ 8
  · rw [if_pos hK]
    (repeat (first | refine gos (k := ?_) | refine fun (_ : _ = false) => ?_ | refine ⟨fun (_ : true = true) => ?_, fun h => absurd h (by decide)⟩ | refine gtr (k := ?_)))
    have hkb : (decide (0 ≤ K) && decide (K ≤ 8)) = true := by rw [decide_eq_true hK.1, decide_eq_true hK.2]; rfl
    rw [hkb]
    refine cmks (bnil_room) Tryd.call14 0 [] [] [] ?_
    (repeat (first | refine gos (k := ?_) | refine fun (_ : _ = false) => ?_ | refine ⟨fun (_ : true = true) => ?_, fun h => absurd h (by decide)⟩ | refine gtr (k := ?_)))
    refine cmks (works_vc) Tryd.call9 0 [] [] [] ?_
    (repeat (first | refine gos (k := ?_) | refine fun (_ : _ = false) => ?_ | refine ⟨fun (_ : true = true) => ?_, fun h => absurd h (by decide)⟩ | refine gtr (k := ?_)))
    exact ⟨_, rfl, rfl, trivial⟩
  · rw [if_neg hK]
    (repeat (first | refine gos (k := ?_) | refine fun (_ : _ = false) => ?_ | refine ⟨fun (_ : true = true) => ?_, fun h => absurd h (by decide)⟩ | refine gtr (k := ?_)))
    have hkb : (decide (0 ≤ K) && decide (K ≤ 8)) = false := by
      rw [Bool.and_eq_false_iff, decide_eq_false_iff_not, decide_eq_false_iff_not]; omega
    rw [hkb]
    refine cmks (bnil_room) Tryd.call14 0 [] [] [] ?_
    (repeat (first | refine gos (k := ?_) | refine fun (_ : _ = false) => ?_ | refine ⟨fun (_ : true = true) => ?_, fun h => absurd h (by decide)⟩ | refine gtr (k := ?_)))
    refine cmks (works_vc) Tryd.call9 0 [] [] [] ?_
    (repeat (first | refine gos (k := ?_) | refine fun (_ : _ = false) => ?_ | refine ⟨fun (_ : true = true) => ?_, fun h => absurd h (by decide)⟩ | refine gtr (k := ?_)))
    exact ⟨_, rfl, rfl, trivial⟩
end Go.Proofs.YtddocchgikaahaaDoor
