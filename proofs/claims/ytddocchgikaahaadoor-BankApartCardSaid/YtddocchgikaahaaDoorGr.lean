/- Records as the laws compare them; what Kill makes of them: the plain law of BankKills. Walks of lintellaw08: records. Conditions: the premises of each law. -/
import Derived.Test.YtddocchgikaahaaDoorGp
import Derived.Test.YtddocchgikaahaaDoorGq
namespace Go.Proofs.YtddocchgikaahaaDoor
set_option linter.unusedVariables false
set_option linter.unusedSimpArgs false
/-- a record, as the laws compare it -/
structure RK where
  key : List UInt8
  val : List UInt8
  lv : Bool
  deriving DecidableEq
def rkOf (c : Rc) : RK := ⟨c.key, c.val, c.lv⟩
theorem rk_die (c : Rc) : rkOf c.die = ⟨c.key, c.val, false⟩ := rfl
/-- the records of the law's bank, what a Kill tells, whether the power is there again, and the records behind it -/
theorem kills_law {s : FlS} {n : Nat} (h : BG s n) (i : Int) :
    ∃ l, s.scan 0 8 = (l, (s.scan 0 8).2.1, true) ∧ l.length = n ∧ s.dd = false ∧
     ((i < 0 ∨ (n : Int) ≤ i) → s.kill 0 8 i = (1, s) ∧ s.on = (12, s) ∧ ∃ s1, s.arm 1 0 = (0, s1) ∧ s1.kill 0 8 i = (1, s1) ∧ s1.on = (12, s1) ∧ s1.dd = false ∧ s1.scan 0 8 = (l, (s1.scan 0 8).2.1, true)) ∧
     (¬ (i < 0 ∨ (n : Int) ≤ i) → (∃ s2 l2, s.kill 0 8 i = (0, s2) ∧ s2.on = (12, s2) ∧ s2.dd = false ∧ s2.scan 0 8 = (l2, (s2.scan 0 8).2.1, true) ∧ l2.length = n ∧ l2.map rkOf = (l.map rkOf).set i.toNat ⟨((l.map rkOf).getD i.toNat ⟨[], [], false⟩).key, ((l.map rkOf).getD i.toNat ⟨[], [], false⟩).val, false⟩) ∧
       ∃ s1 s2 s3, s.arm 1 0 = (0, s1) ∧ s1.kill 0 8 i = (6, s2) ∧ s2.on = (0, s3) ∧ s3.dd = false ∧ s3.scan 0 8 = (l, (s3.scan 0 8).2.1, true)) := by
  obtain ⟨P, H, l, m, Q, h1, hk, har, hln⟩ := h
  obtain ⟨s1, e1, b1, k1, ar1, pt1⟩ := h1.arm (x := 1) (y := 0) (by decide) (by decide)
  refine ⟨l, by rw [h1.scan], hln, h1.dd, fun hi => ?_, fun hi => ?_⟩
  · rw [← hln] at hi
    exact ⟨h1.kill_arg hi, h1.on, s1, e1, b1.kill_arg hi, b1.on, b1.dd, by rw [b1.scan]⟩
  · obtain ⟨j, rfl⟩ : ∃ j : Nat, i = (j : Int) := ⟨i.toNat, by omega⟩
    have hj : j < l.length := by omega
    obtain ⟨l1, d, l2, rfl, rfl⟩ : ∃ l1 d l2, l = l1 ++ d :: l2 ∧ l1.length = j := ⟨l.take j, l[j], l.drop (j + 1), by rw [List.getElem_cons_drop, List.take_append_drop], by rw [List.length_take]; omega⟩
    obtain ⟨s2, f1, f2, f3, f4⟩ := h1.kill_all (by omega)
    obtain ⟨s2', g1, g2, g3, g4⟩ := b1.kill_cut ar1
    have g5 : s2'.on = (0, s2'.on.2) := by unfold FlS.on; rw [if_pos g2]
    refine ⟨⟨s2, _, f1, f2.on, f2.dd, by rw [f2.scan], by rw [← hln]; simp, ?_⟩, s1, s2', _, e1, g1, g5, g4.dd, by rw [g4.scan]⟩
    rw [Int.toNat_natCast, List.map_append, List.map_append, List.map_cons, List.map_cons]
    have hm : (l1.map rkOf).length = l1.length := by simp
    rw [← hm, List.set_append_right _ _ (Nat.le_refl _), Nat.sub_self, List.set_cons_zero, List.getD_eq_getElem?_getD, List.getElem?_append_right (Nat.le_refl _), Nat.sub_self]
    rfl
end Go.Proofs.YtddocchgikaahaaDoor
namespace Go.Proofs.YtddocchgikaahaaDoor
open Go.RowKit
set_option linter.unusedVariables false
set_option linter.unusedSimpArgs false
set_option maxRecDepth 100000
set_option maxHeartbeats 1500000
theorem leS_pool {s : St} (r : Nat) {v : Nat} (h : getL s.H r = some ⟨v, .dead⟩) : leS s ⟨s.t, setL s.H r ⟨v + 1, .pool []⟩⟩ := fun w0 keep E a w hR => by
  rw [getL_eq] at h
  obtain ⟨E2, O⟩ := Out.pool0 hR.hr h
  exact ⟨E2, hR.put O (dst := none) (x := .any) (v := undef) trivial⟩
theorem twin_pl (v i n : Nat) (ls : List (List UInt8)) (x : List UInt8) (hx : ls[i]? = some x) (hn : n = x.length) (hb : x.length ≤ 140737488355328) : Spec Tryd.prog 16 [.pl 0 v i 0 n] [⟨v, .pool ls⟩] (pms (.own 4 2 1 0 n) [⟨v, .pool ls⟩] [(4, ⟨2, .bytes x⟩)]) := by
  subst hn
  have h := spec_ro (twin8_vc 0 ((x.drop 0).take x.length) (by rw [whole]; exact hb)) trivial ⟨trivial, trivial⟩ (rows := [⟨v, .pool ls⟩]) (args := [.pl 0 v i 0 x.length]) (asL_cons (as_pl rfl hx (by omega)) asL_nil)
  rw [whole] at h
  exact h
/-- blocks of which the first n are written over, and k bytes of the next one -/
def pl5 (ls : List (List UInt8)) (n k : Nat) : List (List UInt8) := ((ls.take n).map fun x => List.replicate x.length 85) ++ (match ls.drop n with
  | [] => []
  | x :: r => (List.replicate k 85 ++ x.drop k) :: r)
theorem pl5_at (a r : List (List UInt8)) (x : List UInt8) (k : Nat) : pl5 (a ++ x :: r) a.length k = (a.map fun x => List.replicate x.length 85) ++ (List.replicate k 85 ++ x.drop k) :: r := by
  unfold pl5
  rw [List.take_left, List.drop_left]
theorem pl5_zero (ls : List (List UInt8)) : pl5 ls 0 0 = ls := by
  cases ls <;> simp [pl5]
theorem pl5_get {ls : List (List UInt8)} {n : Nat} {x : List UInt8} (h : ls[n]? = some x) (k : Nat) : (pl5 ls n k)[n]? = some (List.replicate k 85 ++ x.drop k) := by
  obtain ⟨hn, hx⟩ := List.getElem?_eq_some_iff.1 h
  obtain ⟨a, r, rfl, rfl⟩ : ∃ a r, ls = a ++ x :: r ∧ a.length = n := ⟨ls.take n, ls.drop (n + 1), by rw [← hx, List.getElem_cons_drop, List.take_append_drop], by rw [List.length_take]; omega⟩
  rw [pl5_at, List.getElem?_append_right (by simp)]
  simp
theorem pl5_get1 {ls : List (List UInt8)} {n : Nat} {x : List UInt8} (h : ls[n + 1]? = some x) (k : Nat) : (pl5 ls n k)[n + 1]? = some x := by
  obtain ⟨hn, hx⟩ := List.getElem?_eq_some_iff.1 h
  obtain ⟨a, y, r, rfl, rfl⟩ : ∃ a y r, ls = a ++ y :: r ∧ a.length = n := ⟨ls.take n, ls[n], ls.drop (n + 1), by rw [List.getElem_cons_drop, List.take_append_drop], by rw [List.length_take]; omega⟩
  rw [pl5_at]
  rw [List.getElem?_append_right (by omega)] at h
  rw [List.getElem?_append_right (by simp)]
  simp only [List.length_map, Nat.add_sub_cancel_left, List.getElem?_cons_succ] at h ⊢
  exact h
theorem pl5_set {ls : List (List UInt8)} {n : Nat} {x : List UInt8} (h : ls[n]? = some x) {k : Nat} (hk : k < x.length) : (pl5 ls n k).set n (((pl5 ls n k).getD n []).set k 85) = pl5 ls n (k + 1) := by
  rw [List.getD_eq_getElem?_getD, pl5_get h k]
  obtain ⟨hn, hx⟩ := List.getElem?_eq_some_iff.1 h
  obtain ⟨a, r, rfl, rfl⟩ : ∃ a r, ls = a ++ x :: r ∧ a.length = n := ⟨ls.take n, ls.drop (n + 1), by rw [← hx, List.getElem_cons_drop, List.take_append_drop], by rw [List.length_take]; omega⟩
  have e : (List.replicate k 85 ++ x.drop k).set k (85 : UInt8) = List.replicate (k + 1) 85 ++ x.drop (k + 1) := by
    rw [List.drop_eq_getElem_cons hk, List.set_append_right _ _ (by simp), List.length_replicate, Nat.sub_self, List.set_cons_zero, List.replicate_succ', List.append_assoc]
    rfl
  rw [pl5_at, pl5_at, Option.getD_some, e, List.set_append_right _ _ (by simp)]
  simp
theorem pl5_next {ls : List (List UInt8)} {n : Nat} {x : List UInt8} (h : ls[n]? = some x) : pl5 ls n x.length = pl5 ls (n + 1) 0 := by
  obtain ⟨hn, hx⟩ := List.getElem?_eq_some_iff.1 h
  obtain ⟨a, r, rfl, rfl⟩ : ∃ a r, ls = a ++ x :: r ∧ a.length = n := ⟨ls.take n, ls.drop (n + 1), by rw [← hx, List.getElem_cons_drop, List.take_append_drop], by rw [List.length_take]; omega⟩
  have e : a ++ x :: r = (a ++ [x]) ++ r := by simp
  rw [pl5_at, e, show a.length + 1 = (a ++ [x]).length by simp]
  unfold pl5
  rw [List.take_left, List.drop_left]
  cases r <;> simp
theorem pl5_len (ls : List (List UInt8)) (n k : Nat) : (pl5 ls n k).length = ls.length := by
  unfold pl5
  rw [List.length_append, List.length_map, List.length_take]
  cases h : ls.drop n with
  | nil =>
    have := congrArg List.length h
    rw [List.length_drop] at this
    simp only [List.length_nil] at this ⊢; omega
  | cons x r =>
    have := congrArg List.length h
    rw [List.length_drop] at this
    simp only [List.length_cons] at this ⊢; omega
theorem poolOf_get : ∀ (l : List Rc) (i : Nat) (c : Rc), l[i]? = some c → (poolOf l)[2 * i]? = some c.key ∧ (poolOf l)[2 * i + 1]? = some c.val
  | [], i, c, h => by simp at h
  | d :: l, 0, c, h => by
    obtain rfl : d = c := by simpa using h
    exact ⟨rfl, rfl⟩
  | d :: l, i + 1, c, h => poolOf_get l i c (by simpa using h)
theorem rrOf_get : ∀ (l : List Rc) (j i : Nat) (c : Rc), l[i]? = some c → (rrOf j l)[i]? = some ⟨j + 2 * i, c.key.length, c.val.length, c.lv⟩
  | [], j, i, c, h => by simp at h
  | d :: l, j, 0, c, h => by
    obtain rfl : d = c := by simpa using h
    rfl
  | d :: l, j, i + 1, c, h => by
    rw [rrOf, List.getElem?_cons_succ, rrOf_get l (j + 2) i c (by simpa using h)]
    congr 2; omega
theorem records_vc (l : List Rc) (hb : ∀ c ∈ l, c.key.length ≤ 4294967296 ∧ c.val.length ≤ 4294967296) (hl : l.length ≤ 4294967296) (v w L : Nat) (hL : L = l.length) : Spec Tryd.prog 40 [.own 0 v 3 0 L] [⟨v, .row 3 (rrA 1 w) ⟨0, 0, 0, false⟩ (rrOf 0 l)⟩, ⟨w, .pool (poolOf l)⟩]
    (pms (.own 35 (L + 1) 3 0 L) [⟨v, .row 3 (rrA 1 w) ⟨0, 0, 0, false⟩ (rrOf 0 l)⟩, ⟨w, .pool (pl5 (poolOf l) (2 * l.length) 0)⟩] [(35, ⟨L + 1, .row 3 (rrA 70 1) ⟨0, 0, 0, false⟩ (rrOf 0 l)⟩), (70, ⟨1, .pool (poolOf l)⟩)]) := by
  subst hL
  refine spec_entry tbOk Tryd.func40 rfl Tryd.ntmps40 Tryd.results40 ?_
  (repeat (first | refine gos (k := ?_) | refine fun (_ : _ = false) => ?_ | refine ⟨fun (_ : true = true) => ?_, fun h => absurd h (by decide)⟩ | refine gtr (k := ?_)))
  (refine sts (k := ?_))
  conv => whnf
  refine loop_le (leS_trans (leS_nil 35 1 (.row 3 (rrA 70 1) ⟨0, 0, 0, false⟩ []) rfl (by decide) rfl (t' := [.own 0 v 3 0 l.length, .any, .any, .own 35 1 3 0 0, .val (.int .i64 0), .any, .any, .any, .any, .any, .any, .any, .any, .any, .any, .any, .any, .any, .any, .any, .any, .any, .any, .any, .any, .any, .any, .any, .any, .any, .any, .any, .any, .any, .any, .any, .any, .any, .any, .any, .any, .any, .any, .any, .any, .any, .any, .any, .any, .any, .any, .any, .any, .any, .any, .any, .any, .any, .any, .any, .any, .any, .any, .any, .any, .any, .any, .any, .any]) ?_) (leS_pool 70 rfl)) ?_
  · simp [leTn, setD, setL, updH, evA, unA, getA, getL, constA, undefs, deads]
  dsimp only [setL]
  have hrl : (rrOf 0 l).length = l.length := rrOf_len l 0
  refine loop_at (fun i : Nat => i ≤ l.length) (fun i => l.length - i) 2 [3, 4, 5, 6, 7, 8, 9, 10, 11, 12, 13, 14, 15, 16, 17, 18, 19, 20, 21, 22, 23, 24, 25, 26, 27, 28, 29, 30, 31, 32, 33, 34, 35, 36, 37, 38, 39, 40, 41, 42, 43, 44, 45, 46, 47, 48, 49, 50, 51, 52, 53, 54, 55, 56, 57, 58, 59, 60, 61, 62, 63, 64, 65, 66, 67] (fun i => [(3, .own 35 (i + 1) 3 0 i), (4, .val (.int .i64 (i : Int)))])
    (fun i => [(1, ⟨w, .pool (pl5 (poolOf l) (2 * i) 0)⟩), (35, ⟨i + 1, .row 3 (rrA 70 1) ⟨0, 0, 0, false⟩ (rrOf 0 (l.take i))⟩), (70, ⟨1, .pool (poolOf (l.take i))⟩)]) 0 (Nat.zero_le _) ?_ ?_ ?_
  · ((try dsimp only [lpS, anyT, putT, setL]); (repeat (refine And.intro (by first | exact trivial | exact rfl) ?_)); (first | exact trivial | skip))
  · dsimp only [lpS, deadH, putH, setL, Nat.reduceAdd, Nat.zero_add]
    rw [show pl5 (poolOf l) (2 * 0) 0 = poolOf l from pl5_zero _]
    ((try dsimp only [lpS, deadH, putH, setL, Nat.reduceAdd, Nat.zero_add]); (repeat (refine And.intro (by first | exact rfl | exact trivial) ?_)); (first | exact trivial | skip))
  · rintro i va h1
    (dsimp only [lpS, anyT, putT, setL, deadH, putH, Nat.reduceAdd, Nat.zero_add])
    (repeat (first | refine gos (k := ?_) | refine fun (_ : _ = false) => ?_ | refine ⟨fun (_ : true = true) => ?_, fun h => absurd h (by decide)⟩ | refine gtr (k := ?_)))
    refine ⟨fun h => ?_, fun h => ?_⟩
    · have hlt : i < l.length := by have := of_decide_eq_true h; omega
      obtain ⟨c, hc⟩ : ∃ c, l[i]? = some c := ⟨l[i], List.getElem?_eq_getElem hlt⟩
      have hcm : c ∈ l := List.mem_of_getElem? hc
      obtain ⟨hk, hv⟩ := hb c hcm
      obtain ⟨p0, p1⟩ := poolOf_get l i c hc
      have hr : (rrOf 0 l).getD i ⟨0, 0, 0, false⟩ = ⟨2 * i, c.key.length, c.val.length, c.lv⟩ := by rw [List.getD_eq_getElem?_getD, rrOf_get l 0 i c hc, Nat.zero_add]; rfl
      (repeat (first | refine gos (k := ?_) | refine fun (_ : _ = false) => ?_ | refine ⟨fun (_ : true = true) => ?_, fun h => absurd h (by decide)⟩ | refine gtr (k := ?_)))
      (refine sts (k := ?_))
      refine draw_of (p := 2) tbOk hm [0, 0, 0, 6, 14, 30, 62, 0, 0, 384, 896, 1920, 4094, 0, 0, 24576, 57344, 122880, 262142, 524286, 1048575, 2097151] [⟨0, false, false, []⟩, ⟨1, false, false, []⟩, ⟨2, false, false, []⟩, ⟨3, true, false, [13, 17, 18, 19, 20, 21, 22, 23, 24, 25, 26, 27, 28, 29, 30, 31, 32, 33, 3]⟩, ⟨4, true, false, [13, 18, 19, 20, 21, 22, 23, 24, 25, 26, 27, 28, 29, 30, 31, 32, 33, 3]⟩, ⟨5, true, false, [13, 19, 20, 21, 22, 23, 24, 25, 26, 27, 28, 29, 30, 31, 32, 33, 3]⟩, ⟨7, false, false, []⟩, ⟨8, false, false, []⟩, ⟨9, false, false, [10000]⟩, ⟨10, false, false, [10000]⟩, ⟨11, false, false, [10000]⟩, ⟨13, false, false, []⟩, ⟨14, false, false, []⟩, ⟨15, false, false, [10000]⟩, ⟨16, false, false, [10000]⟩, ⟨17, false, false, [10000]⟩, ⟨6, true, true, [10000, 13, 20, 21, 22, 23, 24, 25, 26, 27, 28, 29, 30, 31, 32, 33, 3]⟩, ⟨12, true, true, [10000, 13, 26, 27, 28, 29, 30, 31, 32, 33, 3]⟩, ⟨18, true, false, [13, 32, 33, 3]⟩, ⟨19, true, false, [13, 33, 3]⟩, ⟨20, true, true, [3]⟩, ⟨21, false, false, []⟩] (by kernel_rfl) ?_
      (repeat (first | refine gos (k := ?_) | refine fun (_ : _ = false) => ?_ | refine ⟨fun (_ : true = true) => ?_, fun h => absurd h (by decide)⟩ | refine gtr (k := ?_)))
      have hx1 : (pl5 (poolOf l) (2 * i) 0)[2 * i]? = some c.key := by have := pl5_get p0 0; simpa using this
      have hx2 : (pl5 (poolOf l) (2 * i) 0)[2 * i + 1]? = some c.val := pl5_get1 p1 0
      simp only [Int.toNat_natCast, Nat.zero_add, hr]
      refine callK_move 21 70 ?_
      refine cmks (twin_pl w (2 * i) c.key.length (pl5 (poolOf l) (2 * i) 0) c.key hx1 rfl (by omega)) Tryd.call16 (hz := fun r hr => by (obtain rfl : r = 0 := by omega); rfl) (had := ⟨⟨_, rfl, Nat.lt_succ_self _⟩, trivial⟩) 1 [1, 0, 0, 0, 21] [0, 0, 0, 0, (va 21 + 1)] [4] ?_
      refine ⟨_, _, _, _, rfl, rfl, ?_⟩
      have hpl : (poolOf (l.take i)).length = 2 * i := by rw [poolOf_len, List.length_take]; omega
      have hpl1 : (poolOf (l.take i) ++ [c.key]).length = 2 * i + 1 := by rw [List.length_append, hpl]; rfl
      dsimp only [renA, renAs, rl2, rl.getN']
      simp only [mvA, mvAs, Nat.beq_refl, Bool.and_true, Bool.and_self, Bool.false_and, cond_true, cond_false]
      rw [hpl]
      (repeat (first | refine gos (k := ?_) | refine fun (_ : _ = false) => ?_ | refine ⟨fun (_ : true = true) => ?_, fun h => absurd h (by decide)⟩ | refine gtr (k := ?_)))
      refine callK_move 27 70 ?_
      refine cmks (twin_pl w (2 * i + 1) c.val.length (pl5 (poolOf l) (2 * i) 0) c.val hx2 rfl (by omega)) Tryd.call16 (hz := fun r hr => by (obtain rfl : r = 0 := by omega); rfl) (had := ⟨⟨_, rfl, Nat.lt_succ_self _⟩, trivial⟩) 1 [1, 0, 0, 0, 27] [0, 0, 0, 0, (va 27 + 1)] [4] ?_
      refine ⟨_, _, _, _, rfl, rfl, ?_⟩
      dsimp only [renA, renAs, rl2, rl.getN']
      simp only [mvA, mvAs, Nat.beq_refl, Bool.and_true, Bool.and_self, Bool.false_and, cond_true, cond_false]
      rw [hpl1]
      (repeat (first | refine gos (k := ?_) | refine fun (_ : _ = false) => ?_ | refine ⟨fun (_ : true = true) => ?_, fun h => absurd h (by decide)⟩ | refine gtr (k := ?_)))
      conv => whnf
      have hT : l.take (i + 1) = l.take i ++ [c] := by
        rw [List.take_succ_eq_append_getElem hlt]
        congr 2
        rw [List.getElem?_eq_getElem hlt] at hc
        exact Option.some.inj hc
      have hTl : (l.take i).length = i := by rw [List.length_take]; omega
      have hTp : poolOf (l.take (i + 1)) = poolOf (l.take i) ++ [c.key] ++ [c.val] := by rw [hT, poolOf_snoc]
      have hTr : rrOf 0 (l.take (i + 1)) = rrOf 0 (l.take i) ++ [⟨2 * i, c.key.length, c.val.length, c.lv⟩] := by rw [hT, rrOf_snoc, hTl, Nat.zero_add]
      have hTn : (rrOf 0 (l.take (i + 1))).length = i + 1 := by rw [rrOf_len, List.length_take]; omega
      have hTm : (rrOf 0 (l.take i)).length = i := by rw [rrOf_len, hTl]
      refine ⟨Rr, rrA 70 1, ⟨0, 0, 0, false⟩, rrOf 0 (l.take (i + 1)), ?_⟩
      conv => whnf
      refine And.intro ?_ ?_
      · refine ⟨rfl, ⟨rfl, rfl, Nat.le_refl _, fun q hq => (by (have hq0 : q = 0 := by simpa using hq); subst hq0; exact ⟨rfl, rfl, rfl, trivial⟩)⟩, rfl, rfl, rfl, hTm.symm, .inr rfl, ?_, ?_, by decide⟩
        · rw [hTr, List.map_append]; rfl
        · rw [hTn]
          show (i + 1) * 56 ≤ _
          omega
      rw [hTn, ← hTp]
      (repeat (first | refine gos (k := ?_) | refine fun (_ : _ = false) => ?_ | refine ⟨fun (_ : true = true) => ?_, fun h => absurd h (by decide)⟩ | refine gtr (k := ?_)))
      (refine sts (k := ?_))
      conv => whnf
      have hpn : 2 * i < (poolOf l).length := (List.getElem?_eq_some_iff.1 p0).1
      have hpm : 2 * i + 1 < (poolOf l).length := (List.getElem?_eq_some_iff.1 p1).1
      refine loop_at (fun k : Nat => k ≤ c.key.length) (fun k => c.key.length - k) 2 [3, 4, 5, 6, 7, 8, 9, 10, 11, 12, 13, 14, 15, 16, 17, 18, 19, 20, 21, 22, 23, 24, 25, 26, 27, 28, 29, 30, 31, 32, 33, 34, 35, 36, 37, 38, 39, 40, 41, 42, 43, 44, 45, 46, 47, 48, 49, 50, 51, 52, 53, 54, 55, 56, 57, 58, 59, 60, 61, 62, 63, 64, 65, 66, 67] (fun k => [(3, .own 35 (i + 1 + 1) 3 0 (i + 1)), (4, .val (.int .i64 (i : Int))), (5, .val (.int .i64 (k : Int)))])
        (fun k => [(1, ⟨w, .pool (pl5 (poolOf l) (2 * i) k)⟩), (35, ⟨i + 1 + 1, .row 3 (rrA 70 1) ⟨0, 0, 0, false⟩ (rrOf 0 (l.take (i + 1)))⟩), (70, ⟨1, .pool (poolOf (l.take (i + 1)))⟩)]) 0 (Nat.zero_le _) ?_ ?_ ?_
      · ((try dsimp only [lpS, anyT, putT, setL]); (repeat (refine And.intro (by first | exact trivial | exact rfl) ?_)); (first | exact trivial | skip))
      · ((try dsimp only [lpS, deadH, putH, setL, Nat.reduceAdd, Nat.zero_add]); (repeat (refine And.intro (by first | exact rfl | exact trivial) ?_)); (first | exact trivial | skip))
      · rintro k vk k1
        have hg : ((pl5 (poolOf l) (2 * i) k).getD (2 * i) []).length = c.key.length := by
          rw [List.getD_eq_getElem?_getD, pl5_get p0 k, Option.getD_some, List.length_append, List.length_replicate, List.length_drop]; omega
        have hplen := pl5_len (poolOf l) (2 * i) k
        (dsimp only [lpS, anyT, putT, setL, deadH, putH, Nat.reduceAdd, Nat.zero_add])
        (repeat (first | refine gos (k := ?_) | refine fun (_ : _ = false) => ?_ | refine ⟨fun (_ : true = true) => ?_, fun h => absurd h (by decide)⟩ | refine gtr (k := ?_)))
        simp only [Int.toNat_natCast, Nat.zero_add, hr]
        (repeat (first | refine gos (k := ?_) | refine fun (_ : _ = false) => ?_ | refine ⟨fun (_ : true = true) => ?_, fun h => absurd h (by decide)⟩ | refine gtr (k := ?_)))
        refine ⟨fun h => ?_, fun h => ?_⟩
        · have hk1 : k < c.key.length := by have := of_decide_eq_true h; omega
          (repeat (first | refine gos (k := ?_) | refine fun (_ : _ = false) => ?_ | refine ⟨fun (_ : true = true) => ?_, fun h => absurd h (by decide)⟩ | refine gtr (k := ?_)))
          simp only [Int.toNat_natCast, Nat.zero_add, hr]
          (repeat (first | refine gos (k := ?_) | refine fun (_ : _ = false) => ?_ | refine ⟨fun (_ : true = true) => ?_, fun h => absurd h (by decide)⟩ | refine gtr (k := ?_)))
          simp only [Int.toNat_natCast, Nat.zero_add, hr]
          (repeat (first | refine gos (k := ?_) | refine fun (_ : _ = false) => ?_ | refine ⟨fun (_ : true = true) => ?_, fun h => absurd h (by decide)⟩ | refine gtr (k := ?_)))
          have hset : (pl5 (poolOf l) (2 * i) k).set (2 * i) (((pl5 (poolOf l) (2 * i) k).getD (2 * i) []).set k (UInt8.ofNat (Int.toNat 85))) = pl5 (poolOf l) (2 * i) (k + 1) := pl5_set p0 hk1
          rw [hset]
          refine back_at (k + 1) hk1 (by show c.key.length - (k + 1) < c.key.length - k; omega) ?_ ?_
          · ((try dsimp only [lpS, anyT, putT, setL]); (repeat (refine And.intro (by first | exact trivial | exact rfl) ?_)); (first | exact trivial | skip))
          · ((try dsimp only [lpS, deadH, putH, setL, Nat.reduceAdd, Nat.zero_add]); (repeat (refine And.intro (by first | exact rfl | exact trivial) ?_)); (first | exact trivial | skip))
        · have hk1 : k = c.key.length := by have := of_decide_eq_false h; omega
          subst hk1
          rw [pl5_next p0]
          (repeat (first | refine gos (k := ?_) | refine fun (_ : _ = false) => ?_ | refine ⟨fun (_ : true = true) => ?_, fun h => absurd h (by decide)⟩ | refine gtr (k := ?_)))
          (refine sts (k := ?_))
          conv => whnf
          refine loop_at (fun k : Nat => k ≤ c.val.length) (fun k => c.val.length - k) 2 [3, 4, 5, 6, 7, 8, 9, 10, 11, 12, 13, 14, 15, 16, 17, 18, 19, 20, 21, 22, 23, 24, 25, 26, 27, 28, 29, 30, 31, 32, 33, 34, 35, 36, 37, 38, 39, 40, 41, 42, 43, 44, 45, 46, 47, 48, 49, 50, 51, 52, 53, 54, 55, 56, 57, 58, 59, 60, 61, 62, 63, 64, 65, 66, 67] (fun k => [(3, .own 35 (i + 1 + 1) 3 0 (i + 1)), (4, .val (.int .i64 (i : Int))), (6, .val (.int .i64 (k : Int)))])
            (fun k => [(1, ⟨w, .pool (pl5 (poolOf l) (2 * i + 1) k)⟩), (35, ⟨i + 1 + 1, .row 3 (rrA 70 1) ⟨0, 0, 0, false⟩ (rrOf 0 (l.take (i + 1)))⟩), (70, ⟨1, .pool (poolOf (l.take (i + 1)))⟩)]) 0 (Nat.zero_le _) ?_ ?_ ?_
          · ((try dsimp only [lpS, anyT, putT, setL]); (repeat (refine And.intro (by first | exact trivial | exact rfl) ?_)); (first | exact trivial | skip))
          · ((try dsimp only [lpS, deadH, putH, setL, Nat.reduceAdd, Nat.zero_add]); (repeat (refine And.intro (by first | exact rfl | exact trivial) ?_)); (first | exact trivial | skip))
          · rintro k vk' k1'
            have hg : ((pl5 (poolOf l) (2 * i + 1) k).getD (2 * i + 1) []).length = c.val.length := by
              rw [List.getD_eq_getElem?_getD, pl5_get p1 k, Option.getD_some, List.length_append, List.length_replicate, List.length_drop]; omega
            have hplen := pl5_len (poolOf l) (2 * i + 1) k
            (dsimp only [lpS, anyT, putT, setL, deadH, putH, Nat.reduceAdd, Nat.zero_add])
            (repeat (first | refine gos (k := ?_) | refine fun (_ : _ = false) => ?_ | refine ⟨fun (_ : true = true) => ?_, fun h => absurd h (by decide)⟩ | refine gtr (k := ?_)))
            simp only [Int.toNat_natCast, Nat.zero_add, hr]
            (repeat (first | refine gos (k := ?_) | refine fun (_ : _ = false) => ?_ | refine ⟨fun (_ : true = true) => ?_, fun h => absurd h (by decide)⟩ | refine gtr (k := ?_)))
            refine ⟨fun h => ?_, fun h => ?_⟩
            · have hk1 : k < c.val.length := by have := of_decide_eq_true h; omega
              (repeat (first | refine gos (k := ?_) | refine fun (_ : _ = false) => ?_ | refine ⟨fun (_ : true = true) => ?_, fun h => absurd h (by decide)⟩ | refine gtr (k := ?_)))
              simp only [Int.toNat_natCast, Nat.zero_add, hr]
              (repeat (first | refine gos (k := ?_) | refine fun (_ : _ = false) => ?_ | refine ⟨fun (_ : true = true) => ?_, fun h => absurd h (by decide)⟩ | refine gtr (k := ?_)))
              simp only [Int.toNat_natCast, Nat.zero_add, hr]
              (repeat (first | refine gos (k := ?_) | refine fun (_ : _ = false) => ?_ | refine ⟨fun (_ : true = true) => ?_, fun h => absurd h (by decide)⟩ | refine gtr (k := ?_)))
              have hset : (pl5 (poolOf l) (2 * i + 1) k).set (2 * i + 1) (((pl5 (poolOf l) (2 * i + 1) k).getD (2 * i + 1) []).set k (UInt8.ofNat (Int.toNat 85))) = pl5 (poolOf l) (2 * i + 1) (k + 1) := pl5_set p1 hk1
              rw [hset]
              refine back_at (k + 1) hk1 (by show c.val.length - (k + 1) < c.val.length - k; omega) ?_ ?_
              · ((try dsimp only [lpS, anyT, putT, setL]); (repeat (refine And.intro (by first | exact trivial | exact rfl) ?_)); (first | exact trivial | skip))
              · ((try dsimp only [lpS, deadH, putH, setL, Nat.reduceAdd, Nat.zero_add]); (repeat (refine And.intro (by first | exact rfl | exact trivial) ?_)); (first | exact trivial | skip))
            · have hk1 : k = c.val.length := by have := of_decide_eq_false h; omega
              subst hk1
              rw [pl5_next p1]
              (repeat (first | refine gos (k := ?_) | refine fun (_ : _ = false) => ?_ | refine ⟨fun (_ : true = true) => ?_, fun h => absurd h (by decide)⟩ | refine gtr (k := ?_)))
              refine back_at (i + 1) hlt (by show l.length - (i + 1) < l.length - i; omega) ?_ ?_
              · ((try dsimp only [lpS, anyT, putT, setL]); (repeat (refine And.intro (by first | exact trivial | exact rfl) ?_)); (first | exact trivial | skip))
              · ((try dsimp only [lpS, deadH, putH, setL, Nat.reduceAdd, Nat.zero_add]); (repeat (refine And.intro (by first | exact rfl | exact trivial) ?_)); (first | exact trivial | skip))
    · have hi : i = l.length := by have := of_decide_eq_false h; omega
      subst hi
      (repeat (first | refine gos (k := ?_) | refine fun (_ : _ = false) => ?_ | refine ⟨fun (_ : true = true) => ?_, fun h => absurd h (by decide)⟩ | refine gtr (k := ?_)))
      rw [List.take_length]
      exact ⟨_, rfl, rfl, rfl, rfl, trivial⟩
end Go.Proofs.YtddocchgikaahaaDoor
