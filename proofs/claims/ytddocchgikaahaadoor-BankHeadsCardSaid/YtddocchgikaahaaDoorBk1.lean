/- Walks of octet: sized, within, straight; slices.Index, slices.Contains. Conditions: none. -/
import Derived.Test.YtddocchgikaahaaDoorAw
import Derived.Test.YtddocchgikaahaaDoorAf1
namespace Go.Proofs.YtddocchgikaahaaDoor
open Go.RowKit
set_option linter.unusedVariables false
set_option linter.unusedSimpArgs false
set_option maxRecDepth 100000
theorem straight_vc (i : Int) : Spec Tryd.prog 64 [.val (.int .i64 i)] [] (pst (.val (.int .i64 i)) []) := by
  refine spec_entry tbOk Tryd.func64 rfl Tryd.ntmps64 Tryd.results64 ?_
  (repeat (first | refine gos (k := ?_) | refine fun (_ : _ = false) => ?_ | refine ⟨fun (_ : true = true) => ?_, fun h => absurd h (by decide)⟩ | refine gtr (k := ?_)))
  exact ⟨_, rfl, rfl⟩
theorem within8_vc (z : Nat) (b : List UInt8) (hb : b.length ≤ 140737488355328) (i n : Int) (hi : I64 i) (hn : I64 n) : Spec Tryd.prog 70 [.bs z b, .val (.int .i64 i), .val (.int .i64 n)] [] (pst (.val (.bool (decide (0 ≤ i ∧ 0 ≤ n ∧ i + n ≤ b.length)))) []) := by
  refine spec_entry tbOk Tryd.func70 rfl Tryd.ntmps70 Tryd.results70 ?_
  (repeat (first | refine gos (k := ?_) | refine fun (_ : _ = false) => ?_ | refine ⟨fun (_ : true = true) => ?_, fun h => absurd h (by decide)⟩ | refine gtr (k := ?_)))
  refine ⟨_, congrArg AV.val (congrArg Value.bool ?_), rfl⟩
  rw [Bool.eq_iff_iff]; simp; omega
theorem index_vc (n : Int) (ns : List Int) (hl : ns.length ≤ 140737488355328) (v0 : Nat) (r : Int) (hr : r = match ns.idxOf? n with | some i => (i : Int) | none => -1) : Spec Tryd.prog 72 [.own 0 v0 1 0 ns.length, .val (.int .i64 n)] [⟨v0, .row 1 (intF .i64) 0 ns⟩] (pst (.val (.int .i64 r)) [⟨v0, .row 1 (intF .i64) 0 ns⟩]) := by
  refine spec_entry tbOk Tryd.func72 rfl Tryd.ntmps72 Tryd.results72 ?_
  (repeat (first | refine gos (k := ?_) | refine fun (_ : _ = false) => ?_ | refine ⟨fun (_ : true = true) => ?_, fun h => absurd h (by decide)⟩ | refine gtr (k := ?_)))
  (refine sts (k := ?_))
  conv => whnf
  refine loop_at (fun i : Nat => i ≤ ns.length ∧ ∀ j, j < i → ns[j]? ≠ some n) (fun i => ns.length - i) 1 [4, 5, 8, 9, 10, 11, 12, 13, 14, 15, 16, 17, 18] (fun i => [(8, .val (.int .i64 i))]) (fun _ => []) 0 ⟨Nat.zero_le _, fun j hj => absurd hj (Nat.not_lt_zero j)⟩ ?_ ?_ ?_
  · ((try dsimp only [lpS, anyT, putT, setL]); (repeat (refine And.intro (by first | exact trivial | exact rfl) ?_)); (first | exact trivial | skip))
  · ((try dsimp only [lpS, deadH, putH, setL, Nat.reduceAdd, Nat.zero_add]); (repeat (refine And.intro (by first | exact rfl | exact trivial) ?_)); (first | exact trivial | skip))
  · rintro i v ⟨h1, h2⟩
    (dsimp only [lpS, anyT, putT, setL, deadH, putH, Nat.reduceAdd, Nat.zero_add])
    (repeat (first | refine gos (k := ?_) | refine fun (_ : _ = false) => ?_ | refine ⟨fun (_ : true = true) => ?_, fun h => absurd h (by decide)⟩ | refine gtr (k := ?_)))
    refine ⟨fun h => ?_, fun h => ?_⟩
    · have hi : i < ns.length := by have := of_decide_eq_true h; omega
      (repeat (first | refine gos (k := ?_) | refine fun (_ : _ = false) => ?_ | refine ⟨fun (_ : true = true) => ?_, fun h => absurd h (by decide)⟩ | refine gtr (k := ?_)))
      have hd : ns.getD (0 + (i : Int).toNat) 0 = ns[i] := by simp [hi]
      rw [hd]
      refine ⟨fun h => ?_, fun h => ?_⟩
      · (repeat (first | refine gos (k := ?_) | refine fun (_ : _ = false) => ?_ | refine ⟨fun (_ : true = true) => ?_, fun h => absurd h (by decide)⟩ | refine gtr (k := ?_)))
        have hn : n = ns[i] := of_decide_eq_true h
        refine ⟨_, ?_, rfl⟩
        have : ns.idxOf? n = some i := by
          rw [List.idxOf?, List.findIdx?_eq_some_iff_getElem]
          refine ⟨hi, by simp [hn], fun j hj => ?_⟩
          have := h2 j hj
          rw [List.getElem?_eq_getElem (by omega)] at this
          simpa using this
        rw [hr, this]; rfl
      · (repeat (first | refine gos (k := ?_) | refine fun (_ : _ = false) => ?_ | refine ⟨fun (_ : true = true) => ?_, fun h => absurd h (by decide)⟩ | refine gtr (k := ?_)))
        have hn : ¬ n = ns[i] := of_decide_eq_false h
        refine back_at (i + 1) ⟨by omega, fun j hj => ?_⟩ (by show ns.length - (i + 1) < ns.length - i; omega) ?_ ?_
        · rcases Nat.lt_succ_iff_lt_or_eq.1 hj with hj | rfl
          · exact h2 j hj
          · rw [List.getElem?_eq_getElem hi]; exact fun q => hn (Option.some.inj q).symm
        · ((try dsimp only [lpS, anyT, putT, setL]); (repeat (refine And.intro (by first | exact trivial | exact rfl) ?_)); (first | exact trivial | skip))
        · ((try dsimp only [lpS, deadH, putH, setL, Nat.reduceAdd, Nat.zero_add]); (repeat (refine And.intro (by first | exact rfl | exact trivial) ?_)); (first | exact trivial | skip))
    · (repeat (first | refine gos (k := ?_) | refine fun (_ : _ = false) => ?_ | refine ⟨fun (_ : true = true) => ?_, fun h => absurd h (by decide)⟩ | refine gtr (k := ?_)))
      have hi : i = ns.length := by have := of_decide_eq_false h; omega
      refine ⟨_, ?_, rfl⟩
      have : ns.idxOf? n = none := by
        rw [List.idxOf?, List.findIdx?_eq_none_iff]
        intro x hx
        obtain ⟨j, hj, rfl⟩ := List.getElem_of_mem hx
        have := h2 j (by omega)
        rw [List.getElem?_eq_getElem hj] at this
        simpa using this
      rw [hr, this]; rfl
theorem contains_vc (n : Int) (ns : List Int) (hl : ns.length ≤ 140737488355328) (v0 : Nat) : Spec Tryd.prog 71 [.own 0 v0 1 0 ns.length, .val (.int .i64 n)] [⟨v0, .row 1 (intF .i64) 0 ns⟩] (pst (.val (.bool (decide (n ∈ ns)))) [⟨v0, .row 1 (intF .i64) 0 ns⟩]) := by
  obtain ⟨r, hr⟩ : ∃ r : Int, r = match ns.idxOf? n with | some i => (i : Int) | none => -1 := ⟨_, rfl⟩
  refine spec_entry tbOk Tryd.func71 rfl Tryd.ntmps71 Tryd.results71 ?_
  (repeat (first | refine gos (k := ?_) | refine fun (_ : _ = false) => ?_ | refine ⟨fun (_ : true = true) => ?_, fun h => absurd h (by decide)⟩ | refine gtr (k := ?_)))
  refine cdet (index_vc n ns hl v0 r hr) Tryd.call72 [0] ?_
  (repeat (first | refine gos (k := ?_) | refine fun (_ : _ = false) => ?_ | refine ⟨fun (_ : true = true) => ?_, fun h => absurd h (by decide)⟩ | refine gtr (k := ?_)))
  refine ⟨_, congrArg AV.val (congrArg Value.bool ?_), rfl⟩
  rw [Bool.eq_iff_iff, decide_eq_true_iff, decide_eq_true_iff, hr]
  split
  · rename_i i hi
    simp only [Int.natCast_nonneg, true_iff]
    rw [List.idxOf?, List.findIdx?_eq_some_iff_getElem] at hi
    obtain ⟨h1, h2, _⟩ := hi
    have : ns[i] = n := by simpa using h2
    exact this ▸ List.getElem_mem h1
  · rename_i hi
    rw [List.idxOf?, List.findIdx?_eq_none_iff] at hi
    constructor
    · intro h; omega
    · intro h; exact absurd (hi n h) (by simp)
theorem sized_vc (n : Int) : Spec Tryd.prog 69 [.val (.int .i64 n)] [] (pst (.val (.bool (decide (n = 1 ∨ n = 2 ∨ n = 4 ∨ n = 8)))) []) := by
  refine spec_entry tbOk Tryd.func69 rfl Tryd.ntmps69 Tryd.results69 ?_
  (repeat (first | refine gos (k := ?_) | refine fun (_ : _ = false) => ?_ | refine ⟨fun (_ : true = true) => ?_, fun h => absurd h (by decide)⟩ | refine gtr (k := ?_)))
  refine cdet (contains_vc n [1, 2, 4, 8] (by decide) 2) Tryd.call71 [3] ?_
  (repeat (first | refine gos (k := ?_) | refine fun (_ : _ = false) => ?_ | refine ⟨fun (_ : true = true) => ?_, fun h => absurd h (by decide)⟩ | refine gtr (k := ?_)))
  refine ⟨_, congrArg AV.val (congrArg Value.bool ?_), rfl⟩
  simp only [List.mem_cons, List.not_mem_nil, or_false]
theorem clone0_vc (l : List UInt8) (hl : l.length ≤ 140737488355328) (z : Nat) : Spec Tryd.prog 44 [.bs z l] []
   (pms (.own 5 2 1 0 l.length) [] [(5, ⟨2, .bytes l⟩)]) := by
  refine spec_entryW tbOk Tryd.func44 rfl Tryd.ntmps44 Tryd.results44 ?_
  (repeat (first | refine gos (k := ?_) | refine fun (_ : _ = false) => ?_ | refine ⟨fun (_ : true = true) => ?_, fun h => absurd h (by decide)⟩ | refine gtr (k := ?_)))
  conv => whnf
  intro b hb
  cases b with
  | true =>
    have h0 := hb rfl
    have hl0 : l = [] := List.eq_nil_of_length_eq_zero h0
    subst hl0
    (repeat (first | refine gos (k := ?_) | refine fun (_ : _ = false) => ?_ | refine ⟨fun (_ : true = true) => ?_, fun h => absurd h (by decide)⟩ | refine gtr (k := ?_)))
    (refine sts (k := ?_))
    refine ⟨_, leS_nil 5 2 (.bytes []) rfl (by decide) rfl (t' := [.any, .any, .own 5 2 1 0 0, .any, .any, .any, .any, .any]) ?_, ?_⟩
    · simp [leTn, setD, setL, updH, evA, unA, getA, getL, constA, undefs, deads]
    (repeat (first | refine gos (k := ?_) | refine fun (_ : _ = false) => ?_ | refine ⟨fun (_ : true = true) => ?_, fun h => absurd h (by decide)⟩ | refine gtr (k := ?_)))
    exact ⟨_, rfl, rfl, by simp [allM, getL]⟩
  | false =>
    (repeat (first | refine gos (k := ?_) | refine fun (_ : _ = false) => ?_ | refine ⟨fun (_ : true = true) => ?_, fun h => absurd h (by decide)⟩ | refine gtr (k := ?_)))
    conv => whnf
    refine ⟨l, ?_⟩
    conv => whnf
    refine And.intro ?_ ?_
    · refine ⟨rfl, trivial, rfl, rfl, rfl, rfl, rfl, rfl, ?_, by decide⟩
      simp only [List.map_nil, List.length_nil]
      omega
    (repeat (first | refine gos (k := ?_) | refine fun (_ : _ = false) => ?_ | refine ⟨fun (_ : true = true) => ?_, fun h => absurd h (by decide)⟩ | refine gtr (k := ?_)))
    refine ⟨_, leS_refl _, ?_⟩
    (repeat (first | refine gos (k := ?_) | refine fun (_ : _ = false) => ?_ | refine ⟨fun (_ : true = true) => ?_, fun h => absurd h (by decide)⟩ | refine gtr (k := ?_)))
    refine ⟨_, ?_, rfl, rfl, trivial⟩
    simp only [retV, List.map_nil, List.length_nil, Nat.zero_add]
/-- a number's bytes, the lowest first -/
def leB (n : Nat) (x : Int) : List UInt8 := (List.range n).map fun (i : Nat) => UInt8.ofNat (x / 2 ^ (8 * (i : Int)).toNat % 256).toNat
theorem leB_len (n : Nat) (x : Int) : (leB n x).length = n := by simp [leB]
theorem leB_succ (n : Nat) (x : Int) : leB (n + 1) x = leB n x ++ [UInt8.ofNat (x / 2 ^ (8 * (n : Int)).toNat % 256).toNat] := by simp [leB, List.range_succ]
theorem fill_step (l m : List UInt8) (k : Nat) (b : UInt8) : (l ++ (m ++ List.replicate (k + 1) 0)).set (l.length + m.length) b = l ++ ((m ++ [b]) ++ List.replicate k 0) := by
  rw [List.set_append_right _ _ (by omega), show l.length + m.length - l.length = m.length by omega, List.set_append_right _ _ (Nat.le_refl _), Nat.sub_self, List.replicate_succ, List.set_cons_zero]
  simp
theorem put_vc (l : List UInt8) (hl : l.length ≤ 1000000000) (z : Nat) (x : Int) (hx : 0 ≤ x ∧ x ≤ 18446744073709551615) (n : Int) (hn : n = 1 ∨ n = 2 ∨ n = 4 ∨ n = 8) : Spec Tryd.prog 63 [.bs z l, .val (.int .u64 x), .val (.int .i64 n), .clo 64 []] []
   (pms (.own 12 4 1 0 (l.length + n.toNat)) [] [(12, ⟨4, .bytes (l ++ leB n.toNat x)⟩)]) := by
  refine spec_entryW tbOk Tryd.func63 rfl Tryd.ntmps63 Tryd.results63 ?_
  (repeat (first | refine gos (k := ?_) | refine fun (_ : _ = false) => ?_ | refine ⟨fun (_ : true = true) => ?_, fun h => absurd h (by decide)⟩ | refine gtr (k := ?_)))
  refine cmks (clone0_vc l (by omega) z) Tryd.call44 0 [0, 0, 0, 0, 0, 12] [0, 0, 0, 0, 0, 1] [5] ?_
  (repeat (first | refine gos (k := ?_) | refine fun (_ : _ = false) => ?_ | refine ⟨fun (_ : true = true) => ?_, fun h => absurd h (by decide)⟩ | refine gtr (k := ?_)))
  refine cdet (sized_vc n) Tryd.call69 [] ?_
  have hs : decide (n = 1 ∨ n = 2 ∨ n = 4 ∨ n = 8) = true := by simpa using hn
  rw [hs]
  (repeat (first | refine gos (k := ?_) | refine fun (_ : _ = false) => ?_ | refine ⟨fun (_ : true = true) => ?_, fun h => absurd h (by decide)⟩ | refine gtr (k := ?_)))
  conv => whnf
  refine ⟨List.replicate n.toNat 0, ?_⟩
  conv => whnf
  refine And.intro ?_ ?_
  · refine ⟨rfl, ⟨by omega, by simp only [Nat.mul_one]; omega, by omega, rfl, rfl⟩, rfl, rfl, rfl, rfl, rfl, by simp [bcells, bv], ?_, by decide⟩
    simp only [List.length_replicate, Nat.mul_one]
    omega
  (repeat (first | refine gos (k := ?_) | refine fun (_ : _ = false) => ?_ | refine ⟨fun (_ : true = true) => ?_, fun h => absurd h (by decide)⟩ | refine gtr (k := ?_)))
  (refine sts (k := ?_))
  conv => whnf
  simp only [List.length_replicate]
  refine loop_at (fun i : Nat => i ≤ n.toNat) (fun i => n.toNat - i) 0 [10, 21, 22, 23, 24, 25, 26, 27, 28, 29, 30, 31, 32, 33, 34, 35, 36, 37] (fun i => [(21, .val (.int .i64 i))]) (fun i => [(12, ⟨4, .bytes (l ++ (leB i x ++ List.replicate (n.toNat - i) 0))⟩)]) 0 (Nat.zero_le _) ?_ ?_ ?_
  · ((try dsimp only [lpS, anyT, putT, setL]); (repeat (refine And.intro (by first | exact trivial | exact rfl) ?_)); (first | exact trivial | skip))
  · ((try dsimp only [lpS, deadH, putH, setL, Nat.reduceAdd, Nat.zero_add]); (repeat (refine And.intro (by first | exact rfl | exact trivial) ?_)); (first | exact trivial | skip))
  · rintro i v h1
    (dsimp only [lpS, anyT, putT, setL, deadH, putH, Nat.reduceAdd, Nat.zero_add])
    (repeat (first | refine gos (k := ?_) | refine fun (_ : _ = false) => ?_ | refine ⟨fun (_ : true = true) => ?_, fun h => absurd h (by decide)⟩ | refine gtr (k := ?_)))
    refine ⟨fun h => ?_, fun h => ?_⟩
    · have hi : i < n.toNat := by have := of_decide_eq_true h; omega
      (repeat (first | refine gos (k := ?_) | refine fun (_ : _ = false) => ?_ | refine ⟨fun (_ : true = true) => ?_, fun h => absurd h (by decide)⟩ | refine gtr (k := ?_)))
      (refine sts (k := ?_))
      refine draw_of (p := 0) tbOk hm [0, 0, 2, 0, 0, 24, 62, 0, 0, 256, 896, 1920, 4095, 8191] [⟨0, false, false, []⟩, ⟨1, false, false, []⟩, ⟨2, false, false, []⟩, ⟨3, false, false, []⟩, ⟨4, false, false, []⟩, ⟨7, false, false, []⟩, ⟨8, false, false, []⟩, ⟨9, false, false, []⟩, ⟨10, false, false, []⟩, ⟨11, false, false, []⟩, ⟨5, true, true, [24, 25, 26, 30, 31, 32, 33, 34, 35, 36]⟩, ⟨6, false, false, []⟩, ⟨12, true, false, []⟩, ⟨13, true, true, []⟩] (by kernel_rfl) ?_
      (repeat (first | refine gos (k := ?_) | refine fun (_ : _ = false) => ?_ | refine ⟨fun (_ : true = true) => ?_, fun h => absurd h (by decide)⟩ | refine gtr (k := ?_)))
      refine cdet (straight_vc i) Tryd.call64 [] ?_
      (repeat (first | refine gos (k := ?_) | refine fun (_ : _ = false) => ?_ | refine ⟨fun (_ : true = true) => ?_, fun h => absurd h (by decide)⟩ | refine gtr (k := ?_)))
      (refine sts (k := ?_))
      refine And.intro ?_ ?_
      · refine ⟨rfl, rfl, rfl, ?_, ⟨by omega, by omega⟩, rfl⟩
        simp only [List.length_append, leB_len, List.length_replicate]
        omega
      (repeat (first | refine gos (k := ?_) | refine fun (_ : _ = false) => ?_ | refine ⟨fun (_ : true = true) => ?_, fun h => absurd h (by decide)⟩ | refine gtr (k := ?_)))
      have hset : (l ++ (leB i x ++ List.replicate (n.toNat - i) 0)).set (0 + ((l.length : Int) + (i : Int)).toNat) (UInt8.ofNat (x / 2 ^ (8 * (i : Int)).toNat % 256).toNat) = l ++ (leB (i + 1) x ++ List.replicate (n.toNat - (i + 1)) 0) := by
        rw [leB_succ, ← fill_step, leB_len, show n.toNat - i = n.toNat - (i + 1) + 1 by omega, show 0 + ((l.length : Int) + (i : Int)).toNat = l.length + i by omega]
      refine back_at (i + 1) (by omega) (by show n.toNat - (i + 1) < n.toNat - i; omega) ?_ ?_
      · ((try dsimp only [lpS, anyT, putT, setL]); (repeat (refine And.intro (by first | exact trivial | exact rfl) ?_)); (first | exact trivial | skip))
      · rw [hset]
        ((try dsimp only [lpS, deadH, putH, setL, Nat.reduceAdd, Nat.zero_add]); (repeat (refine And.intro (by first | exact rfl | exact trivial) ?_)); (first | exact trivial | skip))
    · (repeat (first | refine gos (k := ?_) | refine fun (_ : _ = false) => ?_ | refine ⟨fun (_ : true = true) => ?_, fun h => absurd h (by decide)⟩ | refine gtr (k := ?_)))
      (refine sts (k := ?_))
      have hi : i = n.toNat := by have := of_decide_eq_false h; omega
      subst hi
      refine ⟨_, leS_refl _, ?_⟩
      (repeat (first | refine gos (k := ?_) | refine fun (_ : _ = false) => ?_ | refine ⟨fun (_ : true = true) => ?_, fun h => absurd h (by decide)⟩ | refine gtr (k := ?_)))
      refine ⟨_, rfl, rfl, ?_, trivial⟩
      simp only [Nat.sub_self, List.replicate_zero, List.append_nil]
      rfl
end Go.Proofs.YtddocchgikaahaaDoor
