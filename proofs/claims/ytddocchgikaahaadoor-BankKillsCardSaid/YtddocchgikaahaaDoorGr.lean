/- Records as the laws compare them; what Kill makes of them: the plain law of BankKills. Walks of lintellaw08: records. Walks of lintellaw08: SameRecs, look. Walks of lintellaw08: look; records in rows, compared. Conditions: the premises of each law. -/
import Derived.Test.YtddocchgikaahaaDoorGp
import Derived.Test.YtddocchgikaahaaDoorGq
namespace Go.Proofs.YtddocchgikaahaaDoor
set_option linter.unusedVariables false
set_option linter.unusedSimpArgs false
/-- a record, as the laws compare it -/
structure RK where
  key : List UInt8
  val : List UInt8
  lv : Bool
  deriving DecidableEq
def rkOf (c : Rc) : RK := ⟨c.key, c.val, c.lv⟩
theorem rk_die (c : Rc) : rkOf c.die = ⟨c.key, c.val, false⟩ := rfl
/-- the records of the law's bank, what a Kill tells, whether the power is there again, and the records behind it -/
theorem kills_law {s : FlS} {n : Nat} (h : BG s n) (i : Int) :
    ∃ l, s.scan 0 8 = (l, (s.scan 0 8).2.1, true) ∧ l.length = n ∧ s.dd = false ∧
     ((i < 0 ∨ (n : Int) ≤ i) → s.kill 0 8 i = (1, s) ∧ s.on = (12, s) ∧ ∃ s1, s.arm 1 0 = (0, s1) ∧ s1.kill 0 8 i = (1, s1) ∧ s1.on = (12, s1) ∧ s1.dd = false ∧ s1.scan 0 8 = (l, (s1.scan 0 8).2.1, true)) ∧
     (¬ (i < 0 ∨ (n : Int) ≤ i) → (∃ s2 l2, s.kill 0 8 i = (0, s2) ∧ s2.on = (12, s2) ∧ s2.dd = false ∧ s2.scan 0 8 = (l2, (s2.scan 0 8).2.1, true) ∧ l2.length = n ∧ l2.map rkOf = (l.map rkOf).set i.toNat ⟨((l.map rkOf).getD i.toNat ⟨[], [], false⟩).key, ((l.map rkOf).getD i.toNat ⟨[], [], false⟩).val, false⟩) ∧
       ∃ s1 s2 s3, s.arm 1 0 = (0, s1) ∧ s1.kill 0 8 i = (6, s2) ∧ s2.on = (0, s3) ∧ s3.dd = false ∧ s3.scan 0 8 = (l, (s3.scan 0 8).2.1, true)) := by
  obtain ⟨P, H, l, m, Q, h1, hk, har, hln⟩ := h
  obtain ⟨s1, e1, b1, k1, ar1, pt1⟩ := h1.arm (x := 1) (y := 0) (by decide) (by decide)
  refine ⟨l, by rw [h1.scan], hln, h1.dd, fun hi => ?_, fun hi => ?_⟩
  · rw [← hln] at hi
    exact ⟨h1.kill_arg hi, h1.on, s1, e1, b1.kill_arg hi, b1.on, b1.dd, by rw [b1.scan]⟩
  · obtain ⟨j, rfl⟩ : ∃ j : Nat, i = (j : Int) := ⟨i.toNat, by omega⟩
    have hj : j < l.length := by omega
    obtain ⟨l1, d, l2, rfl, rfl⟩ : ∃ l1 d l2, l = l1 ++ d :: l2 ∧ l1.length = j := ⟨l.take j, l[j], l.drop (j + 1), by rw [List.getElem_cons_drop, List.take_append_drop], by rw [List.length_take]; omega⟩
    obtain ⟨s2, f1, f2, f3, f4⟩ := h1.kill_all (by omega)
    obtain ⟨s2', g1, g2, g3, g4⟩ := b1.kill_cut ar1
    have g5 : s2'.on = (0, s2'.on.2) := by unfold FlS.on; rw [if_pos g2]
    refine ⟨⟨s2, _, f1, f2.on, f2.dd, by rw [f2.scan], by rw [← hln]; simp, ?_⟩, s1, s2', _, e1, g1, g5, g4.dd, by rw [g4.scan]⟩
    rw [Int.toNat_natCast, List.map_append, List.map_append, List.map_cons, List.map_cons]
    have hm : (l1.map rkOf).length = l1.length := by simp
    rw [← hm, List.set_append_right _ _ (Nat.le_refl _), Nat.sub_self, List.set_cons_zero, List.getD_eq_getElem?_getD, List.getElem?_append_right (Nat.le_refl _), Nat.sub_self]
    rfl
end Go.Proofs.YtddocchgikaahaaDoor
namespace Go.Proofs.YtddocchgikaahaaDoor
open Go.RowKit
set_option linter.unusedVariables false
set_option linter.unusedSimpArgs false
set_option maxRecDepth 100000
set_option maxHeartbeats 1500000
theorem leS_pool {s : St} (r : Nat) {v : Nat} (h : getL s.H r = some ⟨v, .dead⟩) : leS s ⟨s.t, setL s.H r ⟨v + 1, .pool []⟩⟩ := fun w0 keep E a w hR => by
  rw [getL_eq] at h
  obtain ⟨E2, O⟩ := Out.pool0 hR.hr h
  exact ⟨E2, hR.put O (dst := none) (x := .any) (v := undef) trivial⟩
theorem twin_pl (v i n : Nat) (ls : List (List UInt8)) (x : List UInt8) (hx : ls[i]? = some x) (hn : n = x.length) (hb : x.length ≤ 140737488355328) : Spec Tryd.prog 16 [.pl 0 v i 0 n] [⟨v, .pool ls⟩] (pms (.own 4 2 1 0 n) [⟨v, .pool ls⟩] [(4, ⟨2, .bytes x⟩)]) := by
  subst hn
  have h := spec_ro (twin8_vc 0 ((x.drop 0).take x.length) (by rw [whole]; exact hb)) trivial ⟨trivial, trivial⟩ (rows := [⟨v, .pool ls⟩]) (args := [.pl 0 v i 0 x.length]) (asL_cons (as_pl rfl hx (by omega)) asL_nil)
  rw [whole] at h
  exact h
/-- blocks of which the first n are written over, and k bytes of the next one -/
def pl5 (ls : List (List UInt8)) (n k : Nat) : List (List UInt8) := ((ls.take n).map fun x => List.replicate x.length 85) ++ (match ls.drop n with
  | [] => []
  | x :: r => (List.replicate k 85 ++ x.drop k) :: r)
theorem pl5_at (a r : List (List UInt8)) (x : List UInt8) (k : Nat) : pl5 (a ++ x :: r) a.length k = (a.map fun x => List.replicate x.length 85) ++ (List.replicate k 85 ++ x.drop k) :: r := by
  unfold pl5
  rw [List.take_left, List.drop_left]
theorem pl5_zero (ls : List (List UInt8)) : pl5 ls 0 0 = ls := by
  cases ls <;> simp [pl5]
theorem pl5_get {ls : List (List UInt8)} {n : Nat} {x : List UInt8} (h : ls[n]? = some x) (k : Nat) : (pl5 ls n k)[n]? = some (List.replicate k 85 ++ x.drop k) := by
  obtain ⟨hn, hx⟩ := List.getElem?_eq_some_iff.1 h
  obtain ⟨a, r, rfl, rfl⟩ : ∃ a r, ls = a ++ x :: r ∧ a.length = n := ⟨ls.take n, ls.drop (n + 1), by rw [← hx, List.getElem_cons_drop, List.take_append_drop], by rw [List.length_take]; omega⟩
  rw [pl5_at, List.getElem?_append_right (by simp)]
  simp
theorem pl5_get1 {ls : List (List UInt8)} {n : Nat} {x : List UInt8} (h : ls[n + 1]? = some x) (k : Nat) : (pl5 ls n k)[n + 1]? = some x := by
  obtain ⟨hn, hx⟩ := List.getElem?_eq_some_iff.1 h
  obtain ⟨a, y, r, rfl, rfl⟩ : ∃ a y r, ls = a ++ y :: r ∧ a.length = n := ⟨ls.take n, ls[n], ls.drop (n + 1), by rw [List.getElem_cons_drop, List.take_append_drop], by rw [List.length_take]; omega⟩
  rw [pl5_at]
  rw [List.getElem?_append_right (by omega)] at h
  rw [List.getElem?_append_right (by simp)]
  simp only [List.length_map, Nat.add_sub_cancel_left, List.getElem?_cons_succ] at h ⊢
  exact h
theorem pl5_set {ls : List (List UInt8)} {n : Nat} {x : List UInt8} (h : ls[n]? = some x) {k : Nat} (hk : k < x.length) : (pl5 ls n k).set n (((pl5 ls n k).getD n []).set k 85) = pl5 ls n (k + 1) := by
  rw [List.getD_eq_getElem?_getD, pl5_get h k]
  obtain ⟨hn, hx⟩ := List.getElem?_eq_some_iff.1 h
  obtain ⟨a, r, rfl, rfl⟩ : ∃ a r, ls = a ++ x :: r ∧ a.length = n := ⟨ls.take n, ls.drop (n + 1), by rw [← hx, List.getElem_cons_drop, List.take_append_drop], by rw [List.length_take]; omega⟩
  have e : (List.replicate k 85 ++ x.drop k).set k (85 : UInt8) = List.replicate (k + 1) 85 ++ x.drop (k + 1) := by
    rw [List.drop_eq_getElem_cons hk, List.set_append_right _ _ (by simp), List.length_replicate, Nat.sub_self, List.set_cons_zero, List.replicate_succ', List.append_assoc]
    rfl
  rw [pl5_at, pl5_at, Option.getD_some, e, List.set_append_right _ _ (by simp)]
  simp
theorem pl5_next {ls : List (List UInt8)} {n : Nat} {x : List UInt8} (h : ls[n]? = some x) : pl5 ls n x.length = pl5 ls (n + 1) 0 := by
  obtain ⟨hn, hx⟩ := List.getElem?_eq_some_iff.1 h
  obtain ⟨a, r, rfl, rfl⟩ : ∃ a r, ls = a ++ x :: r ∧ a.length = n := ⟨ls.take n, ls.drop (n + 1), by rw [← hx, List.getElem_cons_drop, List.take_append_drop], by rw [List.length_take]; omega⟩
  have e : a ++ x :: r = (a ++ [x]) ++ r := by simp
  rw [pl5_at, e, show a.length + 1 = (a ++ [x]).length by simp]
  unfold pl5
  rw [List.take_left, List.drop_left]
  cases r <;> simp
theorem pl5_len (ls : List (List UInt8)) (n k : Nat) : (pl5 ls n k).length = ls.length := by
  unfold pl5
  rw [List.length_append, List.length_map, List.length_take]
  cases h : ls.drop n with
  | nil =>
    have := congrArg List.length h
    rw [List.length_drop] at this
    simp only [List.length_nil] at this ⊢; omega
  | cons x r =>
    have := congrArg List.length h
    rw [List.length_drop] at this
    simp only [List.length_cons] at this ⊢; omega
theorem poolOf_get : ∀ (l : List Rc) (i : Nat) (c : Rc), l[i]? = some c → (poolOf l)[2 * i]? = some c.key ∧ (poolOf l)[2 * i + 1]? = some c.val
  | [], i, c, h => by simp at h
  | d :: l, 0, c, h => by
    obtain rfl : d = c := by simpa using h
    exact ⟨rfl, rfl⟩
  | d :: l, i + 1, c, h => poolOf_get l i c (by simpa using h)
theorem rrOf_get : ∀ (l : List Rc) (j i : Nat) (c : Rc), l[i]? = some c → (rrOf j l)[i]? = some ⟨j + 2 * i, c.key.length, c.val.length, c.lv⟩
  | [], j, i, c, h => by simp at h
  | d :: l, j, 0, c, h => by
    obtain rfl : d = c := by simpa using h
    rfl
  | d :: l, j, i + 1, c, h => by
    rw [rrOf, List.getElem?_cons_succ, rrOf_get l (j + 2) i c (by simpa using h)]
    congr 2; omega
theorem records_vc (l : List Rc) (hb : ∀ c ∈ l, c.key.length ≤ 4294967296 ∧ c.val.length ≤ 4294967296) (hl : l.length ≤ 4294967296) (v w L : Nat) (hL : L = l.length) : Spec Tryd.prog 40 [.own 0 v 3 0 L] [⟨v, .row 3 (rrA 1 w) ⟨0, 0, 0, false⟩ (rrOf 0 l)⟩, ⟨w, .pool (poolOf l)⟩]
    (pms (.own 35 (L + 1) 3 0 L) [⟨v, .row 3 (rrA 1 w) ⟨0, 0, 0, false⟩ (rrOf 0 l)⟩, ⟨w, .pool (pl5 (poolOf l) (2 * l.length) 0)⟩] [(35, ⟨L + 1, .row 3 (rrA 70 1) ⟨0, 0, 0, false⟩ (rrOf 0 l)⟩), (70, ⟨1, .pool (poolOf l)⟩)]) := by
  subst hL
  refine spec_entry tbOk Tryd.func40 rfl Tryd.ntmps40 Tryd.results40 ?_
  (repeat (first | refine gos (k := ?_) | refine fun (_ : _ = false) => ?_ | refine ⟨fun (_ : true = true) => ?_, fun h => absurd h (by decide)⟩ | refine gtr (k := ?_)))
  (refine sts (k := ?_))
  conv => whnf
  refine loop_le (leS_trans (leS_nil 35 1 (.row 3 (rrA 70 1) ⟨0, 0, 0, false⟩ []) rfl (by decide) rfl (t' := [.own 0 v 3 0 l.length, .any, .any, .own 35 1 3 0 0, .val (.int .i64 0), .any, .any, .any, .any, .any, .any, .any, .any, .any, .any, .any, .any, .any, .any, .any, .any, .any, .any, .any, .any, .any, .any, .any, .any, .any, .any, .any, .any, .any, .any, .any, .any, .any, .any, .any, .any, .any, .any, .any, .any, .any, .any, .any, .any, .any, .any, .any, .any, .any, .any, .any, .any, .any, .any, .any, .any, .any, .any, .any, .any, .any, .any, .any, .any]) ?_) (leS_pool 70 rfl)) ?_
  · simp [leTn, setD, setL, updH, evA, unA, getA, getL, constA, undefs, deads]
  dsimp only [setL]
  have hrl : (rrOf 0 l).length = l.length := rrOf_len l 0
  refine loop_at (fun i : Nat => i ≤ l.length) (fun i => l.length - i) 2 [3, 4, 5, 6, 7, 8, 9, 10, 11, 12, 13, 14, 15, 16, 17, 18, 19, 20, 21, 22, 23, 24, 25, 26, 27, 28, 29, 30, 31, 32, 33, 34, 35, 36, 37, 38, 39, 40, 41, 42, 43, 44, 45, 46, 47, 48, 49, 50, 51, 52, 53, 54, 55, 56, 57, 58, 59, 60, 61, 62, 63, 64, 65, 66, 67] (fun i => [(3, .own 35 (i + 1) 3 0 i), (4, .val (.int .i64 (i : Int)))])
    (fun i => [(1, ⟨w, .pool (pl5 (poolOf l) (2 * i) 0)⟩), (35, ⟨i + 1, .row 3 (rrA 70 1) ⟨0, 0, 0, false⟩ (rrOf 0 (l.take i))⟩), (70, ⟨1, .pool (poolOf (l.take i))⟩)]) 0 (Nat.zero_le _) ?_ ?_ ?_
  · ((try dsimp only [lpS, anyT, putT, setL]); (repeat (refine And.intro (by first | exact trivial | exact rfl) ?_)); (first | exact trivial | skip))
  · dsimp only [lpS, deadH, putH, setL, Nat.reduceAdd, Nat.zero_add]
    rw [show pl5 (poolOf l) (2 * 0) 0 = poolOf l from pl5_zero _]
    ((try dsimp only [lpS, deadH, putH, setL, Nat.reduceAdd, Nat.zero_add]); (repeat (refine And.intro (by first | exact rfl | exact trivial) ?_)); (first | exact trivial | skip))
  · rintro i va h1
    (dsimp only [lpS, anyT, putT, setL, deadH, putH, Nat.reduceAdd, Nat.zero_add])
    (repeat (first | refine gos (k := ?_) | refine fun (_ : _ = false) => ?_ | refine ⟨fun (_ : true = true) => ?_, fun h => absurd h (by decide)⟩ | refine gtr (k := ?_)))
    refine ⟨fun h => ?_, fun h => ?_⟩
    · have hlt : i < l.length := by have := of_decide_eq_true h; omega
      obtain ⟨c, hc⟩ : ∃ c, l[i]? = some c := ⟨l[i], List.getElem?_eq_getElem hlt⟩
      have hcm : c ∈ l := List.mem_of_getElem? hc
      obtain ⟨hk, hv⟩ := hb c hcm
      obtain ⟨p0, p1⟩ := poolOf_get l i c hc
      have hr : (rrOf 0 l).getD i ⟨0, 0, 0, false⟩ = ⟨2 * i, c.key.length, c.val.length, c.lv⟩ := by rw [List.getD_eq_getElem?_getD, rrOf_get l 0 i c hc, Nat.zero_add]; rfl
      (repeat (first | refine gos (k := ?_) | refine fun (_ : _ = false) => ?_ | refine ⟨fun (_ : true = true) => ?_, fun h => absurd h (by decide)⟩ | refine gtr (k := ?_)))
      (refine sts (k := ?_))
      refine draw_of (p := 2) tbOk hm [0, 0, 0, 6, 14, 30, 62, 0, 0, 384, 896, 1920, 4094, 0, 0, 24576, 57344, 122880, 262142, 524286, 1048575, 2097151] [⟨0, false, false, []⟩, ⟨1, false, false, []⟩, ⟨2, false, false, []⟩, ⟨3, true, false, [13, 17, 18, 19, 20, 21, 22, 23, 24, 25, 26, 27, 28, 29, 30, 31, 32, 33, 3]⟩, ⟨4, true, false, [13, 18, 19, 20, 21, 22, 23, 24, 25, 26, 27, 28, 29, 30, 31, 32, 33, 3]⟩, ⟨5, true, false, [13, 19, 20, 21, 22, 23, 24, 25, 26, 27, 28, 29, 30, 31, 32, 33, 3]⟩, ⟨7, false, false, []⟩, ⟨8, false, false, []⟩, ⟨9, false, false, [10000]⟩, ⟨10, false, false, [10000]⟩, ⟨11, false, false, [10000]⟩, ⟨13, false, false, []⟩, ⟨14, false, false, []⟩, ⟨15, false, false, [10000]⟩, ⟨16, false, false, [10000]⟩, ⟨17, false, false, [10000]⟩, ⟨6, true, true, [10000, 13, 20, 21, 22, 23, 24, 25, 26, 27, 28, 29, 30, 31, 32, 33, 3]⟩, ⟨12, true, true, [10000, 13, 26, 27, 28, 29, 30, 31, 32, 33, 3]⟩, ⟨18, true, false, [13, 32, 33, 3]⟩, ⟨19, true, false, [13, 33, 3]⟩, ⟨20, true, true, [3]⟩, ⟨21, false, false, []⟩] (by kernel_rfl) ?_
      (repeat (first | refine gos (k := ?_) | refine fun (_ : _ = false) => ?_ | refine ⟨fun (_ : true = true) => ?_, fun h => absurd h (by decide)⟩ | refine gtr (k := ?_)))
      have hx1 : (pl5 (poolOf l) (2 * i) 0)[2 * i]? = some c.key := by have := pl5_get p0 0; simpa using this
      have hx2 : (pl5 (poolOf l) (2 * i) 0)[2 * i + 1]? = some c.val := pl5_get1 p1 0
      simp only [Int.toNat_natCast, Nat.zero_add, hr]
      refine callK_move 21 70 ?_
      refine cmks (twin_pl w (2 * i) c.key.length (pl5 (poolOf l) (2 * i) 0) c.key hx1 rfl (by omega)) Tryd.call16 (hz := fun r hr => by (obtain rfl : r = 0 := by omega); rfl) (had := ⟨⟨_, rfl, Nat.lt_succ_self _⟩, trivial⟩) 1 [1, 0, 0, 0, 21] [0, 0, 0, 0, (va 21 + 1)] [4] ?_
      refine ⟨_, _, _, _, rfl, rfl, ?_⟩
      have hpl : (poolOf (l.take i)).length = 2 * i := by rw [poolOf_len, List.length_take]; omega
      have hpl1 : (poolOf (l.take i) ++ [c.key]).length = 2 * i + 1 := by rw [List.length_append, hpl]; rfl
      dsimp only [renA, renAs, rl2, rl.getN']
      simp only [mvA, mvAs, Nat.beq_refl, Bool.and_true, Bool.and_self, Bool.false_and, cond_true, cond_false]
      rw [hpl]
      (repeat (first | refine gos (k := ?_) | refine fun (_ : _ = false) => ?_ | refine ⟨fun (_ : true = true) => ?_, fun h => absurd h (by decide)⟩ | refine gtr (k := ?_)))
      refine callK_move 27 70 ?_
      refine cmks (twin_pl w (2 * i + 1) c.val.length (pl5 (poolOf l) (2 * i) 0) c.val hx2 rfl (by omega)) Tryd.call16 (hz := fun r hr => by (obtain rfl : r = 0 := by omega); rfl) (had := ⟨⟨_, rfl, Nat.lt_succ_self _⟩, trivial⟩) 1 [1, 0, 0, 0, 27] [0, 0, 0, 0, (va 27 + 1)] [4] ?_
      refine ⟨_, _, _, _, rfl, rfl, ?_⟩
      dsimp only [renA, renAs, rl2, rl.getN']
      simp only [mvA, mvAs, Nat.beq_refl, Bool.and_true, Bool.and_self, Bool.false_and, cond_true, cond_false]
      rw [hpl1]
      (repeat (first | refine gos (k := ?_) | refine fun (_ : _ = false) => ?_ | refine ⟨fun (_ : true = true) => ?_, fun h => absurd h (by decide)⟩ | refine gtr (k := ?_)))
      conv => whnf
      have hT : l.take (i + 1) = l.take i ++ [c] := by
        rw [List.take_succ_eq_append_getElem hlt]
        congr 2
        rw [List.getElem?_eq_getElem hlt] at hc
        exact Option.some.inj hc
      have hTl : (l.take i).length = i := by rw [List.length_take]; omega
      have hTp : poolOf (l.take (i + 1)) = poolOf (l.take i) ++ [c.key] ++ [c.val] := by rw [hT, poolOf_snoc]
      have hTr : rrOf 0 (l.take (i + 1)) = rrOf 0 (l.take i) ++ [⟨2 * i, c.key.length, c.val.length, c.lv⟩] := by rw [hT, rrOf_snoc, hTl, Nat.zero_add]
      have hTn : (rrOf 0 (l.take (i + 1))).length = i + 1 := by rw [rrOf_len, List.length_take]; omega
      have hTm : (rrOf 0 (l.take i)).length = i := by rw [rrOf_len, hTl]
      refine ⟨Rr, rrA 70 1, ⟨0, 0, 0, false⟩, rrOf 0 (l.take (i + 1)), ?_⟩
      conv => whnf
      refine And.intro ?_ ?_
      · refine ⟨rfl, ⟨rfl, rfl, Nat.le_refl _, fun q hq => (by (have hq0 : q = 0 := by simpa using hq); subst hq0; exact ⟨rfl, rfl, rfl, trivial⟩)⟩, rfl, rfl, rfl, hTm.symm, .inr rfl, ?_, ?_, by decide⟩
        · rw [hTr, List.map_append]; rfl
        · rw [hTn]
          show (i + 1) * 56 ≤ _
          omega
      rw [hTn, ← hTp]
      (repeat (first | refine gos (k := ?_) | refine fun (_ : _ = false) => ?_ | refine ⟨fun (_ : true = true) => ?_, fun h => absurd h (by decide)⟩ | refine gtr (k := ?_)))
      (refine sts (k := ?_))
      conv => whnf
      have hpn : 2 * i < (poolOf l).length := (List.getElem?_eq_some_iff.1 p0).1
      have hpm : 2 * i + 1 < (poolOf l).length := (List.getElem?_eq_some_iff.1 p1).1
      refine loop_at (fun k : Nat => k ≤ c.key.length) (fun k => c.key.length - k) 2 [3, 4, 5, 6, 7, 8, 9, 10, 11, 12, 13, 14, 15, 16, 17, 18, 19, 20, 21, 22, 23, 24, 25, 26, 27, 28, 29, 30, 31, 32, 33, 34, 35, 36, 37, 38, 39, 40, 41, 42, 43, 44, 45, 46, 47, 48, 49, 50, 51, 52, 53, 54, 55, 56, 57, 58, 59, 60, 61, 62, 63, 64, 65, 66, 67] (fun k => [(3, .own 35 (i + 1 + 1) 3 0 (i + 1)), (4, .val (.int .i64 (i : Int))), (5, .val (.int .i64 (k : Int)))])
        (fun k => [(1, ⟨w, .pool (pl5 (poolOf l) (2 * i) k)⟩), (35, ⟨i + 1 + 1, .row 3 (rrA 70 1) ⟨0, 0, 0, false⟩ (rrOf 0 (l.take (i + 1)))⟩), (70, ⟨1, .pool (poolOf (l.take (i + 1)))⟩)]) 0 (Nat.zero_le _) ?_ ?_ ?_
      · ((try dsimp only [lpS, anyT, putT, setL]); (repeat (refine And.intro (by first | exact trivial | exact rfl) ?_)); (first | exact trivial | skip))
      · ((try dsimp only [lpS, deadH, putH, setL, Nat.reduceAdd, Nat.zero_add]); (repeat (refine And.intro (by first | exact rfl | exact trivial) ?_)); (first | exact trivial | skip))
      · rintro k vk k1
        have hg : ((pl5 (poolOf l) (2 * i) k).getD (2 * i) []).length = c.key.length := by
          rw [List.getD_eq_getElem?_getD, pl5_get p0 k, Option.getD_some, List.length_append, List.length_replicate, List.length_drop]; omega
        have hplen := pl5_len (poolOf l) (2 * i) k
        (dsimp only [lpS, anyT, putT, setL, deadH, putH, Nat.reduceAdd, Nat.zero_add])
        (repeat (first | refine gos (k := ?_) | refine fun (_ : _ = false) => ?_ | refine ⟨fun (_ : true = true) => ?_, fun h => absurd h (by decide)⟩ | refine gtr (k := ?_)))
        simp only [Int.toNat_natCast, Nat.zero_add, hr]
        (repeat (first | refine gos (k := ?_) | refine fun (_ : _ = false) => ?_ | refine ⟨fun (_ : true = true) => ?_, fun h => absurd h (by decide)⟩ | refine gtr (k := ?_)))
        refine ⟨fun h => ?_, fun h => ?_⟩
        · have hk1 : k < c.key.length := by have := of_decide_eq_true h; omega
          (repeat (first | refine gos (k := ?_) | refine fun (_ : _ = false) => ?_ | refine ⟨fun (_ : true = true) => ?_, fun h => absurd h (by decide)⟩ | refine gtr (k := ?_)))
          simp only [Int.toNat_natCast, Nat.zero_add, hr]
          (repeat (first | refine gos (k := ?_) | refine fun (_ : _ = false) => ?_ | refine ⟨fun (_ : true = true) => ?_, fun h => absurd h (by decide)⟩ | refine gtr (k := ?_)))
          simp only [Int.toNat_natCast, Nat.zero_add, hr]
          (repeat (first | refine gos (k := ?_) | refine fun (_ : _ = false) => ?_ | refine ⟨fun (_ : true = true) => ?_, fun h => absurd h (by decide)⟩ | refine gtr (k := ?_)))
          have hset : (pl5 (poolOf l) (2 * i) k).set (2 * i) (((pl5 (poolOf l) (2 * i) k).getD (2 * i) []).set k (UInt8.ofNat (Int.toNat 85))) = pl5 (poolOf l) (2 * i) (k + 1) := pl5_set p0 hk1
          rw [hset]
          refine back_at (k + 1) hk1 (by show c.key.length - (k + 1) < c.key.length - k; omega) ?_ ?_
          · ((try dsimp only [lpS, anyT, putT, setL]); (repeat (refine And.intro (by first | exact trivial | exact rfl) ?_)); (first | exact trivial | skip))
          · ((try dsimp only [lpS, deadH, putH, setL, Nat.reduceAdd, Nat.zero_add]); (repeat (refine And.intro (by first | exact rfl | exact trivial) ?_)); (first | exact trivial | skip))
        · have hk1 : k = c.key.length := by have := of_decide_eq_false h; omega
          subst hk1
          rw [pl5_next p0]
          (repeat (first | refine gos (k := ?_) | refine fun (_ : _ = false) => ?_ | refine ⟨fun (_ : true = true) => ?_, fun h => absurd h (by decide)⟩ | refine gtr (k := ?_)))
          (refine sts (k := ?_))
          conv => whnf
          refine loop_at (fun k : Nat => k ≤ c.val.length) (fun k => c.val.length - k) 2 [3, 4, 5, 6, 7, 8, 9, 10, 11, 12, 13, 14, 15, 16, 17, 18, 19, 20, 21, 22, 23, 24, 25, 26, 27, 28, 29, 30, 31, 32, 33, 34, 35, 36, 37, 38, 39, 40, 41, 42, 43, 44, 45, 46, 47, 48, 49, 50, 51, 52, 53, 54, 55, 56, 57, 58, 59, 60, 61, 62, 63, 64, 65, 66, 67] (fun k => [(3, .own 35 (i + 1 + 1) 3 0 (i + 1)), (4, .val (.int .i64 (i : Int))), (6, .val (.int .i64 (k : Int)))])
            (fun k => [(1, ⟨w, .pool (pl5 (poolOf l) (2 * i + 1) k)⟩), (35, ⟨i + 1 + 1, .row 3 (rrA 70 1) ⟨0, 0, 0, false⟩ (rrOf 0 (l.take (i + 1)))⟩), (70, ⟨1, .pool (poolOf (l.take (i + 1)))⟩)]) 0 (Nat.zero_le _) ?_ ?_ ?_
          · ((try dsimp only [lpS, anyT, putT, setL]); (repeat (refine And.intro (by first | exact trivial | exact rfl) ?_)); (first | exact trivial | skip))
          · ((try dsimp only [lpS, deadH, putH, setL, Nat.reduceAdd, Nat.zero_add]); (repeat (refine And.intro (by first | exact rfl | exact trivial) ?_)); (first | exact trivial | skip))
          · rintro k vk' k1'
            have hg : ((pl5 (poolOf l) (2 * i + 1) k).getD (2 * i + 1) []).length = c.val.length := by
              rw [List.getD_eq_getElem?_getD, pl5_get p1 k, Option.getD_some, List.length_append, List.length_replicate, List.length_drop]; omega
            have hplen := pl5_len (poolOf l) (2 * i + 1) k
            (dsimp only [lpS, anyT, putT, setL, deadH, putH, Nat.reduceAdd, Nat.zero_add])
            (repeat (first | refine gos (k := ?_) | refine fun (_ : _ = false) => ?_ | refine ⟨fun (_ : true = true) => ?_, fun h => absurd h (by decide)⟩ | refine gtr (k := ?_)))
            simp only [Int.toNat_natCast, Nat.zero_add, hr]
            (repeat (first | refine gos (k := ?_) | refine fun (_ : _ = false) => ?_ | refine ⟨fun (_ : true = true) => ?_, fun h => absurd h (by decide)⟩ | refine gtr (k := ?_)))
            refine ⟨fun h => ?_, fun h => ?_⟩
            · have hk1 : k < c.val.length := by have := of_decide_eq_true h; omega
              (repeat (first | refine gos (k := ?_) | refine fun (_ : _ = false) => ?_ | refine ⟨fun (_ : true = true) => ?_, fun h => absurd h (by decide)⟩ | refine gtr (k := ?_)))
              simp only [Int.toNat_natCast, Nat.zero_add, hr]
              (repeat (first | refine gos (k := ?_) | refine fun (_ : _ = false) => ?_ | refine ⟨fun (_ : true = true) => ?_, fun h => absurd h (by decide)⟩ | refine gtr (k := ?_)))
              simp only [Int.toNat_natCast, Nat.zero_add, hr]
              (repeat (first | refine gos (k := ?_) | refine fun (_ : _ = false) => ?_ | refine ⟨fun (_ : true = true) => ?_, fun h => absurd h (by decide)⟩ | refine gtr (k := ?_)))
              have hset : (pl5 (poolOf l) (2 * i + 1) k).set (2 * i + 1) (((pl5 (poolOf l) (2 * i + 1) k).getD (2 * i + 1) []).set k (UInt8.ofNat (Int.toNat 85))) = pl5 (poolOf l) (2 * i + 1) (k + 1) := pl5_set p1 hk1
              rw [hset]
              refine back_at (k + 1) hk1 (by show c.val.length - (k + 1) < c.val.length - k; omega) ?_ ?_
              · ((try dsimp only [lpS, anyT, putT, setL]); (repeat (refine And.intro (by first | exact trivial | exact rfl) ?_)); (first | exact trivial | skip))
              · ((try dsimp only [lpS, deadH, putH, setL, Nat.reduceAdd, Nat.zero_add]); (repeat (refine And.intro (by first | exact rfl | exact trivial) ?_)); (first | exact trivial | skip))
            · have hk1 : k = c.val.length := by have := of_decide_eq_false h; omega
              subst hk1
              rw [pl5_next p1]
              (repeat (first | refine gos (k := ?_) | refine fun (_ : _ = false) => ?_ | refine ⟨fun (_ : true = true) => ?_, fun h => absurd h (by decide)⟩ | refine gtr (k := ?_)))
              refine back_at (i + 1) hlt (by show l.length - (i + 1) < l.length - i; omega) ?_ ?_
              · ((try dsimp only [lpS, anyT, putT, setL]); (repeat (refine And.intro (by first | exact trivial | exact rfl) ?_)); (first | exact trivial | skip))
              · ((try dsimp only [lpS, deadH, putH, setL, Nat.reduceAdd, Nat.zero_add]); (repeat (refine And.intro (by first | exact rfl | exact trivial) ?_)); (first | exact trivial | skip))
    · have hi : i = l.length := by have := of_decide_eq_false h; omega
      subst hi
      (repeat (first | refine gos (k := ?_) | refine fun (_ : _ = false) => ?_ | refine ⟨fun (_ : true = true) => ?_, fun h => absurd h (by decide)⟩ | refine gtr (k := ?_)))
      rw [List.take_length]
      exact ⟨_, rfl, rfl, rfl, rfl, trivial⟩
end Go.Proofs.YtddocchgikaahaaDoor
namespace Go.Proofs.YtddocchgikaahaaDoor
open Go.RowKit
set_option linter.unusedVariables false
set_option linter.unusedSimpArgs false
set_option maxRecDepth 100000
set_option maxHeartbeats 1500000
def recA (z : Nat) (r : RK) : List AV := [.bs z r.key, .bs z r.val, .val (.bool r.lv)]
def rk0 : RK := ⟨[], [], false⟩
theorem take_next {α : Type} {a b : List α} {i : Nat} {d : α} (ha : i < a.length) (hb : i < b.length) (h : a.take i = b.take i) (he : a.getD i d = b.getD i d) : a.take (i + 1) = b.take (i + 1) := by
  rw [List.take_succ_eq_append_getElem ha, List.take_succ_eq_append_getElem hb, h]
  rw [List.getD_eq_getElem?_getD, List.getD_eq_getElem?_getD, List.getElem?_eq_getElem ha, List.getElem?_eq_getElem hb] at he
  rw [show a[i] = b[i] from he]
theorem sameR_vc (z z' : Nat) (a b : List RK) (hb : ∀ r ∈ a, r.key.length ≤ 140737488355328 ∧ r.val.length ≤ 140737488355328) (hl : a.length ≤ 140737488355328) : Spec Tryd.prog 20 [.sl z 3 (recA z) rk0 a, .sl z' 3 (recA z') rk0 b] [] (pms (.val (.bool (decide (a = b)))) [] []) := by
  refine spec_entry tbOk Tryd.func20 rfl Tryd.ntmps20 Tryd.results20 ?_
  (repeat (first | refine gos (k := ?_) | refine fun (_ : _ = false) => ?_ | refine ⟨fun (_ : true = true) => ?_, fun h => absurd h (by decide)⟩ | refine gtr (k := ?_)))
  refine ⟨fun h => ?_, fun h => ?_⟩
  · have hne : a.length ≠ b.length := fun q => by rw [q] at h; simp at h
    have hab : a ≠ b := fun q => hne (by rw [q])
    (repeat (first | refine gos (k := ?_) | refine fun (_ : _ = false) => ?_ | refine ⟨fun (_ : true = true) => ?_, fun h => absurd h (by decide)⟩ | refine gtr (k := ?_)))
    rw [decide_eq_false hab]
    exact ⟨_, rfl, rfl, trivial⟩
  have hab : a.length = b.length := by simp at h; omega
  (repeat (first | refine gos (k := ?_) | refine fun (_ : _ = false) => ?_ | refine ⟨fun (_ : true = true) => ?_, fun h => absurd h (by decide)⟩ | refine gtr (k := ?_)))
  (refine sts (k := ?_))
  conv => whnf
  refine loop_at (fun i : Nat => i ≤ a.length ∧ a.take i = b.take i) (fun i => a.length - i) 0 [4, 5, 11, 12, 13, 14, 15, 16, 17, 18, 19, 20, 21, 22, 23, 24, 25, 26, 27, 28, 29, 30, 31, 32, 33, 34, 35, 36, 37, 38, 39, 40, 41, 42, 43, 44, 45, 46, 47, 48, 49, 50, 51, 52, 53, 54, 55] (fun i => [(4, .val (.bool false)), (5, .val (.int .i64 (i : Int)))]) (fun i => []) 0 ⟨Nat.zero_le _, by simp⟩ ?_ ?_ ?_
  · ((try dsimp only [lpS, anyT, putT, setL]); (repeat (refine And.intro (by first | exact trivial | exact rfl) ?_)); (first | exact trivial | skip))
  · ((try dsimp only [lpS, deadH, putH, setL, Nat.reduceAdd, Nat.zero_add]); (repeat (refine And.intro (by first | exact rfl | exact trivial) ?_)); (first | exact trivial | skip))
  · rintro i v ⟨i1, i2⟩
    (dsimp only [lpS, anyT, putT, setL, deadH, putH, Nat.reduceAdd, Nat.zero_add])
    (repeat (first | refine gos (k := ?_) | refine fun (_ : _ = false) => ?_ | refine ⟨fun (_ : true = true) => ?_, fun h => absurd h (by decide)⟩ | refine gtr (k := ?_)))
    refine ⟨fun h => ?_, fun h => ?_⟩
    · have hlt : i < a.length := by have := of_decide_eq_true h; omega
      have hlb : i < b.length := by omega
      have hmem : a.getD i rk0 ∈ a := by rw [List.getD_eq_getElem?_getD, List.getElem?_eq_getElem hlt]; exact List.getElem_mem hlt
      obtain ⟨hk, hv⟩ := hb _ hmem
      have hnx := take_next (d := rk0) hlt hlb i2
      have hno : a.getD i rk0 ≠ b.getD i rk0 → a ≠ b := fun q e => q (by rw [e])
      generalize hx : a.getD i rk0 = x at hk hv hnx hno
      generalize hy : b.getD i rk0 = y at hnx hno
      (repeat (first | refine gos (k := ?_) | refine fun (_ : _ = false) => ?_ | refine ⟨fun (_ : true = true) => ?_, fun h => absurd h (by decide)⟩ | refine gtr (k := ?_)))
      (refine sts (k := ?_))
      refine draw_of (p := 0) tbOk hm [0, 0, 3, 7, 15, 0, 0, 96, 224, 480, 1023, 2047, 4095, 4095, 16383, 32767, 65535, 4095, 4095, 397311, 921599, 1970175, 4194303, 8388607, 16777215, 33554431, 67108863, 67108863, 268435455, 536870911, 1073741823, 67108863, 67108863, 6509559807, 15099494399, 32279363583, 68719476735, 137438953471, 274877906943] [⟨0, false, false, []⟩, ⟨1, false, false, []⟩, ⟨2, true, false, [20, 21, 22, 23, 24, 25, 26, 27, 28, 29, 30, 31, 32, 33, 34, 35, 36, 37, 38, 39, 40, 41, 42, 43, 44, 45, 46, 47, 48, 49, 50, 51, 52, 53, 54, 55]⟩, ⟨3, true, false, [21, 22, 23, 24, 25, 26, 27, 28, 29, 30, 31, 32, 33, 34, 35, 36, 37, 38, 39, 40, 41, 42, 43, 44, 45, 46, 47, 48, 49, 50, 51, 52, 53, 54, 55]⟩, ⟨4, true, false, [22, 23, 24, 25, 26, 27, 28, 29, 30, 31, 32, 33, 34, 35, 36, 37, 38, 39, 40, 41, 42, 43, 44, 45, 46, 47, 48, 49, 50, 51, 52, 53, 54, 55]⟩, ⟨5, false, false, []⟩, ⟨6, false, false, []⟩, ⟨7, true, false, [17, 18, 19, 20, 21, 25, 26, 27, 28, 29, 30, 31, 32, 33, 34, 35, 36, 37, 38, 39, 40, 41, 42, 43, 44, 45, 46, 47, 48, 49, 50, 51, 52, 53, 54, 55]⟩, ⟨8, true, false, [17, 18, 19, 20, 21, 26, 27, 28, 29, 30, 31, 32, 33, 34, 35, 36, 37, 38, 39, 40, 41, 42, 43, 44, 45, 46, 47, 48, 49, 50, 51, 52, 53, 54, 55]⟩, ⟨9, true, false, [17, 18, 19, 20, 21, 27, 28, 29, 30, 31, 32, 33, 34, 35, 36, 37, 38, 39, 40, 41, 42, 43, 44, 45, 46, 47, 48, 49, 50, 51, 52, 53, 54, 55]⟩, ⟨10, false, false, []⟩, ⟨11, false, false, []⟩, ⟨12, false, false, []⟩, ⟨13, false, false, []⟩, ⟨14, true, false, [32, 33, 34, 35, 36, 37, 38, 39, 40, 41, 42, 43, 44, 45, 46, 47, 48, 49, 50, 51, 52, 53, 54, 55]⟩, ⟨15, true, false, [33, 34, 35, 36, 37, 38, 39, 40, 41, 42, 43, 44, 45, 46, 47, 48, 49, 50, 51, 52, 53, 54, 55]⟩, ⟨16, true, false, [34, 35, 36, 37, 38, 39, 40, 41, 42, 43, 44, 45, 46, 47, 48, 49, 50, 51, 52, 53, 54, 55]⟩, ⟨17, false, false, []⟩, ⟨18, false, false, []⟩, ⟨19, true, false, [29, 30, 31, 32, 33, 37, 38, 39, 40, 41, 42, 43, 44, 45, 46, 47, 48, 49, 50, 51, 52, 53, 54, 55]⟩, ⟨20, true, false, [29, 30, 31, 32, 33, 38, 39, 40, 41, 42, 43, 44, 45, 46, 47, 48, 49, 50, 51, 52, 53, 54, 55]⟩, ⟨21, true, false, [29, 30, 31, 32, 33, 39, 40, 41, 42, 43, 44, 45, 46, 47, 48, 49, 50, 51, 52, 53, 54, 55]⟩, ⟨22, true, false, [40, 41, 42, 43, 44, 45, 46, 47, 48, 49, 50, 51, 52, 53, 54, 55]⟩, ⟨23, false, false, []⟩, ⟨24, false, false, []⟩, ⟨25, false, false, []⟩, ⟨26, false, false, []⟩, ⟨27, false, false, []⟩, ⟨28, true, false, [46, 47, 48, 49, 50, 51, 52, 53, 54, 55]⟩, ⟨29, true, false, [47, 48, 49, 50, 51, 52, 53, 54, 55]⟩, ⟨30, true, false, [48, 49, 50, 51, 52, 53, 54, 55]⟩, ⟨31, false, false, []⟩, ⟨32, false, false, []⟩, ⟨33, true, false, [43, 44, 45, 46, 47, 51, 52, 53, 54, 55]⟩, ⟨34, true, false, [43, 44, 45, 46, 47, 52, 53, 54, 55]⟩, ⟨35, true, false, [43, 44, 45, 46, 47, 53, 54, 55]⟩, ⟨36, true, false, [54, 55]⟩, ⟨37, false, false, []⟩, ⟨38, false, false, []⟩] (by kernel_rfl) ?_
      (repeat (first | refine gos (k := ?_) | refine fun (_ : _ = false) => ?_ | refine ⟨fun (_ : true = true) => ?_, fun h => absurd h (by decide)⟩ | refine gtr (k := ?_)))
      simp only [Int.toNat_natCast, hx, hy]
      cases hq : (x.lv == y.lv) with
      | false =>
        have hne : x ≠ y := fun e => by rw [e] at hq; simp at hq
        (repeat (first | refine gos (k := ?_) | refine fun (_ : _ = false) => ?_ | refine ⟨fun (_ : true = true) => ?_, fun h => absurd h (by decide)⟩ | refine gtr (k := ?_)))
        simp only [Int.toNat_natCast, hx, hy]
        (repeat (first | refine gos (k := ?_) | refine fun (_ : _ = false) => ?_ | refine ⟨fun (_ : true = true) => ?_, fun h => absurd h (by decide)⟩ | refine gtr (k := ?_)))
        intro _
        (repeat (first | refine gos (k := ?_) | refine fun (_ : _ = false) => ?_ | refine ⟨fun (_ : true = true) => ?_, fun h => absurd h (by decide)⟩ | refine gtr (k := ?_)))
        simp only [Int.toNat_natCast, hx, hy]
        (repeat (first | refine gos (k := ?_) | refine fun (_ : _ = false) => ?_ | refine ⟨fun (_ : true = true) => ?_, fun h => absurd h (by decide)⟩ | refine gtr (k := ?_)))
        intro _
        (repeat (first | refine gos (k := ?_) | refine fun (_ : _ = false) => ?_ | refine ⟨fun (_ : true = true) => ?_, fun h => absurd h (by decide)⟩ | refine gtr (k := ?_)))
        rw [decide_eq_false (hno hne)]
        exact ⟨_, rfl, rfl, trivial⟩
      | true =>
        have hlv : x.lv = y.lv := by simpa using hq
        (repeat (first | refine gos (k := ?_) | refine fun (_ : _ = false) => ?_ | refine ⟨fun (_ : true = true) => ?_, fun h => absurd h (by decide)⟩ | refine gtr (k := ?_)))
        (
                                        conv => whnf
                                        refine And.intro ?_ ?_
                                        · refine fun _ => ⟨by simp [gpOs, gpO, gpA, opnds, getA, getL], ?_⟩
                                          simp
                                          omega
                                        (repeat (first | refine gos (k := ?_) | refine fun (_ : _ = false) => ?_ | refine ⟨fun (_ : true = true) => ?_, fun h => absurd h (by decide)⟩ | refine gtr (k := ?_)))
                                        simp only [Int.toNat_natCast, hx, hy]
                                        (repeat (first | refine gos (k := ?_) | refine fun (_ : _ = false) => ?_ | refine ⟨fun (_ : true = true) => ?_, fun h => absurd h (by decide)⟩ | refine gtr (k := ?_))))
        (
                                        conv => whnf
                                        refine And.intro ?_ ?_
                                        · refine fun _ => ⟨by simp [gpOs, gpO, gpA, opnds, getA, getL], ?_⟩
                                          simp
                                          omega
                                        (repeat (first | refine gos (k := ?_) | refine fun (_ : _ = false) => ?_ | refine ⟨fun (_ : true = true) => ?_, fun h => absurd h (by decide)⟩ | refine gtr (k := ?_)))
                                        simp only [Int.toNat_natCast, hx, hy]
                                        (repeat (first | refine gos (k := ?_) | refine fun (_ : _ = false) => ?_ | refine ⟨fun (_ : true = true) => ?_, fun h => absurd h (by decide)⟩ | refine gtr (k := ?_))))
        refine gcl (k := ?_)
        refine cmks (same_vc z z' x.key y.key hk) Tryd.call22 0 [] [] [] ?_
        by_cases hkk : x.key = y.key
        · rw [decide_eq_true hkk]
          (repeat (first | refine gos (k := ?_) | refine fun (_ : _ = false) => ?_ | refine ⟨fun (_ : true = true) => ?_, fun h => absurd h (by decide)⟩ | refine gtr (k := ?_)))
          (
                                        conv => whnf
                                        refine And.intro ?_ ?_
                                        · refine fun _ => ⟨by simp [gpOs, gpO, gpA, opnds, getA, getL], ?_⟩
                                          simp
                                          omega
                                        (repeat (first | refine gos (k := ?_) | refine fun (_ : _ = false) => ?_ | refine ⟨fun (_ : true = true) => ?_, fun h => absurd h (by decide)⟩ | refine gtr (k := ?_)))
                                        simp only [Int.toNat_natCast, hx, hy]
                                        (repeat (first | refine gos (k := ?_) | refine fun (_ : _ = false) => ?_ | refine ⟨fun (_ : true = true) => ?_, fun h => absurd h (by decide)⟩ | refine gtr (k := ?_))))
          (
                                        conv => whnf
                                        refine And.intro ?_ ?_
                                        · refine fun _ => ⟨by simp [gpOs, gpO, gpA, opnds, getA, getL], ?_⟩
                                          simp
                                          omega
                                        (repeat (first | refine gos (k := ?_) | refine fun (_ : _ = false) => ?_ | refine ⟨fun (_ : true = true) => ?_, fun h => absurd h (by decide)⟩ | refine gtr (k := ?_)))
                                        simp only [Int.toNat_natCast, hx, hy]
                                        (repeat (first | refine gos (k := ?_) | refine fun (_ : _ = false) => ?_ | refine ⟨fun (_ : true = true) => ?_, fun h => absurd h (by decide)⟩ | refine gtr (k := ?_))))
          refine gcl (k := ?_)
          refine cmks (same_vc z z' x.val y.val hv) Tryd.call22 0 [] [] [] ?_
          by_cases hvv : x.val = y.val
          · rw [decide_eq_true hvv]
            (repeat (first | refine gos (k := ?_) | refine fun (_ : _ = false) => ?_ | refine ⟨fun (_ : true = true) => ?_, fun h => absurd h (by decide)⟩ | refine gtr (k := ?_)))
            have hxy : x = y := by cases x; cases y; simp_all
            refine back_at (i + 1) ⟨hlt, hnx hxy⟩ (by show a.length - (i + 1) < a.length - i; omega) ?_ ?_
            · ((try dsimp only [lpS, anyT, putT, setL]); (repeat (refine And.intro (by first | exact trivial | exact rfl) ?_)); (first | exact trivial | skip))
            · ((try dsimp only [lpS, deadH, putH, setL, Nat.reduceAdd, Nat.zero_add]); (repeat (refine And.intro (by first | exact rfl | exact trivial) ?_)); (first | exact trivial | skip))
          · rw [decide_eq_false hvv]
            (repeat (first | refine gos (k := ?_) | refine fun (_ : _ = false) => ?_ | refine ⟨fun (_ : true = true) => ?_, fun h => absurd h (by decide)⟩ | refine gtr (k := ?_)))
            rw [decide_eq_false (hno fun e => hvv (by rw [e]))]
            exact ⟨_, rfl, rfl, trivial⟩
        · rw [decide_eq_false hkk]
          (repeat (first | refine gos (k := ?_) | refine fun (_ : _ = false) => ?_ | refine ⟨fun (_ : true = true) => ?_, fun h => absurd h (by decide)⟩ | refine gtr (k := ?_)))
          intro _
          (repeat (first | refine gos (k := ?_) | refine fun (_ : _ = false) => ?_ | refine ⟨fun (_ : true = true) => ?_, fun h => absurd h (by decide)⟩ | refine gtr (k := ?_)))
          rw [decide_eq_false (hno fun e => hkk (by rw [e]))]
          exact ⟨_, rfl, rfl, trivial⟩
    · (repeat (first | refine gos (k := ?_) | refine fun (_ : _ = false) => ?_ | refine ⟨fun (_ : true = true) => ?_, fun h => absurd h (by decide)⟩ | refine gtr (k := ?_)))
      have hi : i = a.length := by have := of_decide_eq_false h; omega
      subst hi
      rw [List.take_length, hab, List.take_length] at i2
      rw [decide_eq_true i2]
      exact ⟨_, rfl, rfl, trivial⟩
end Go.Proofs.YtddocchgikaahaaDoor
namespace Go.Proofs.YtddocchgikaahaaDoor
open Go.RowKit
set_option linter.unusedVariables false
set_option linter.unusedSimpArgs false
set_option maxRecDepth 100000
set_option maxHeartbeats 1500000
theorem scan_bound (x : List UInt8) : ∀ (n a : Nat), x.length - a = n → (∀ r ∈ (scanG x a).1, r.key.length ≤ x.length ∧ r.val.length ≤ x.length) ∧ (scanG x a).1.length ≤ n := by
  intro n
  induction n using Nat.strongRecOn with
  | _ n ih =>
    intro a ha
    by_cases h : a < x.length ∧ x.getD a 0 ≠ 255
    · by_cases hr : recIs (x.drop a)
      · rw [scanG_some h hr]
        have hN := recN_pos (x.drop a)
        have hx := hr.2.2.2.2.2.1
        rw [List.length_drop] at hx
        obtain ⟨h1, h2⟩ := ih (x.length - (a + recN (x.drop a))) (by omega) (a + recN (x.drop a)) rfl
        refine ⟨fun r hm => ?_, by simp only [List.length_cons]; omega⟩
        rcases List.mem_cons.1 hm with rfl | hm
        · constructor
          · show (recKey (x.drop a)).length ≤ x.length
            unfold recKey; simp only [List.length_drop, List.length_take]; omega
          · show (recVal (x.drop a)).length ≤ x.length
            unfold recVal; simp only [List.length_drop, List.length_take]; omega
        · exact h1 r hm
      · rw [scanG_bad h hr]
        exact ⟨by simp, Nat.zero_le _⟩
    · rw [scanG_end h]
      exact ⟨by simp, Nat.zero_le _⟩
theorem look_vc {W : Int} {n k : Nat} (s : FlS) (a c : Nat) (g : Goes W n k s) (p : Lies n k a c) (hd : s.dd = false) (l : List Rc) (e : Nat) (b : Bool) (hS : s.scan a c = (l, e, b)) (vb v0 v1 : Nat) : Spec Tryd.prog 18 [.ref 0 vb 3 0 0] [⟨vb, .obj [.ref 1 v0 6 0 0, .val (.int .i64 (a : Int)), .val (.int .i64 (c : Int))]⟩, ⟨v0, .obj [.own 2 v1 1 0 s.l.length, .val (.int .i64 (s.k : Int)), .val (.int .i64 s.ar), .val (.int .i64 s.pt), .val (.bool s.dd), .val (.int .i64 s.wr)]⟩, ⟨v1, .bytes s.l⟩]
   (pms (.tup [.own 12 (l.length + 2) 3 0 l.length, .val (.bool b), .val (.bool true)]) [⟨vb, .obj [.ref 1 v0 6 0 0, .val (.int .i64 (a : Int)), .val (.int .i64 (c : Int))]⟩, ⟨v0, .obj [.own 2 v1 1 0 s.l.length, .val (.int .i64 (s.k : Int)), .val (.int .i64 s.ar), .val (.int .i64 s.pt), .val (.bool s.dd), .val (.int .i64 s.wr)]⟩, ⟨v1, .bytes s.l⟩]
     [(12, ⟨l.length + 2, .row 3 (rrA 13 2) ⟨0, 0, 0, false⟩ (rrOf 0 l)⟩), (13, ⟨2, .pool (poolOf l)⟩)]) := by
  have hb := g.bok p
  have hbl := hb.len
  have hbk : (s.bank a c).length ≤ 140737488355328 := by unfold FlS.bank; rw [List.length_take, List.length_drop]; omega
  have hgl := g.len
  have hbk2 : (s.bank a c).length ≤ 4194304 := by unfold FlS.bank; rw [List.length_take, List.length_drop, g.l]; omega
  have hsb := scan_bound (s.bank a c) _ 16 rfl
  rw [show scanG (s.bank a c) 16 = (l, e, b) from hS] at hsb
  obtain ⟨hs1, hs2⟩ := hsb
  simp only at hs1 hs2
  refine spec_entry tbOk Tryd.func18 rfl Tryd.ntmps18 Tryd.results18 ?_
  (repeat (first | refine gos (k := ?_) | refine fun (_ : _ = false) => ?_ | refine ⟨fun (_ : true = true) => ?_, fun h => absurd h (by decide)⟩ | refine gtr (k := ?_)))
  refine cmks (Scan_live s a c g p hd l.length (by rw [hS]) vb v0 v1) Tryd.call30 (he := ⟨fun _ => ⟨rfl, rfl, trivial, trivial⟩, trivial, trivial⟩) 3 [0, 1, 2, 0, 0, 0, 0, 0, 0, 0, 0, 0, 0, 15, 16] [0, 0, 0, 0, 0, 0, 0, 0, 0, 0, 0, 0, 0, 1, 1] [13, 14] ?_
  rw [hS]
  (repeat (first | refine gos (k := ?_) | refine fun (_ : _ = false) => ?_ | refine ⟨fun (_ : true = true) => ?_, fun h => absurd h (by decide)⟩ | refine gtr (k := ?_)))
  refine cmks (records_vc l (fun c hc => ⟨by have := (hs1 c hc).1; omega, by have := (hs1 c hc).2; omega⟩) (by omega) (l.length + 3) 3 l.length rfl) Tryd.call40 (hrows := ⟨⟨fun _ => ⟨Nat.lt_succ_self 1, Nat.lt_succ_self 1, trivial, trivial⟩, rfl⟩, ⟨trivial, rfl⟩, trivial⟩) (hr2 := ⟨fun _ => ⟨rfl, rfl, trivial, trivial⟩, trivial, trivial⟩) (he := ⟨fun _ => ⟨rfl, rfl, trivial, trivial⟩, trivial, trivial⟩) 2 [15, 16, 0, 0, 0, 0, 0, 0, 0, 0, 0, 0, 0, 0, 0, 0, 0, 0, 0, 0, 0, 0, 0, 0, 0, 0, 0, 0, 0, 0, 0, 0, 0, 0, 0, 12, 0, 0, 0, 0, 0, 0, 0, 0, 0, 0, 0, 0, 0, 0, 0, 0, 0, 0, 0, 0, 0, 0, 0, 0, 0, 0, 0, 0, 0, 0, 0, 0, 0, 0, 13] [0, 0, 0, 0, 0, 0, 0, 0, 0, 0, 0, 0, 0, 0, 0, 0, 0, 0, 0, 0, 0, 0, 0, 0, 0, 0, 0, 0, 0, 0, 0, 0, 0, 0, 0, 1, 0, 0, 0, 0, 0, 0, 0, 0, 0, 0, 0, 0, 0, 0, 0, 0, 0, 0, 0, 0, 0, 0, 0, 0, 0, 0, 0, 0, 0, 0, 0, 0, 0, 0, 1] [35, 70] ?_
  (repeat (first | refine gos (k := ?_) | refine fun (_ : _ = false) => ?_ | refine ⟨fun (_ : true = true) => ?_, fun h => absurd h (by decide)⟩ | refine gtr (k := ?_)))
  exact ⟨_, rfl, rfl, rfl, rfl, trivial⟩
/-- records in a row, their bytes in a pool -/
structure RRel (rs : List Rr) (ps : List (List UInt8)) (ls : List RK) : Prop where
  len : rs.length = ls.length
  el : ∀ (i : Nat) (x : Rr) (y : RK), rs[i]? = some x → ls[i]? = some y → ps[x.i]? = some y.key ∧ x.kn = y.key.length ∧ ps[x.i + 1]? = some y.val ∧ x.vn = y.val.length ∧ x.lv = y.lv
theorem RRel.of (l : List Rc) : RRel (rrOf 0 l) (poolOf l) (l.map rkOf) := by
  refine ⟨by rw [rrOf_len, List.length_map], fun i x y hx hy => ?_⟩
  rw [List.getElem?_map] at hy
  obtain ⟨c, hc, rfl⟩ := Option.map_eq_some_iff.1 hy
  obtain ⟨p0, p1⟩ := poolOf_get l i c hc
  rw [rrOf_get l 0 i c hc, Nat.zero_add] at hx
  obtain rfl := Option.some.inj hx
  exact ⟨p0, rfl, p1, rfl, rfl⟩
theorem RRel.set {rs : List Rr} {ps : List (List UInt8)} {ls : List RK} (h : RRel rs ps ls) (i : Nat) (b : Bool) (d : Rr) (e : RK) : RRel (rs.set i ⟨(rs.getD i d).i, (rs.getD i d).kn, (rs.getD i d).vn, b⟩) ps (ls.set i ⟨(ls.getD i e).key, (ls.getD i e).val, b⟩) := by
  refine ⟨by simp [h.len], fun j x y hx hy => ?_⟩
  have hl := h.len
  by_cases hj : i = j
  · subst hj
    have hi : i < rs.length := by
      have := (List.getElem?_eq_some_iff.1 hx).1
      simpa using this
    have hi2 : i < ls.length := by omega
    rw [List.getElem?_set_self hi] at hx
    rw [List.getElem?_set_self hi2] at hy
    obtain rfl := Option.some.inj hx
    obtain rfl := Option.some.inj hy
    have e1 : rs[i]? = some (rs.getD i d) := by rw [List.getD_eq_getElem?_getD, List.getElem?_eq_getElem hi]; rfl
    have e2 : ls[i]? = some (ls.getD i e) := by rw [List.getD_eq_getElem?_getD, List.getElem?_eq_getElem hi2]; rfl
    obtain ⟨q1, q2, q3, q4, _⟩ := h.el i _ _ e1 e2
    exact ⟨q1, q2, q3, q4, rfl⟩
  · rw [List.getElem?_set_ne hj] at hx hy
    exact h.el j x y hx hy
theorem as_recs {rows : List Ent} {r v q w n : Nat} {rs : List Rr} {ps : List (List UInt8)} {ls : List RK} (h : RRel rs ps ls) (he : getL rows r = some ⟨v, .row 3 (rrA q w) ⟨0, 0, 0, false⟩ rs⟩) (hp : getL rows q = some ⟨w, .pool ps⟩) (hn : n = rs.length) : As rows (.own r v 3 0 n) (.sl 0 3 (recA 0) rk0 ls) := by
  refine as_slG he hn (by rw [hn, h.len]) fun i x y hx hy => ?_
  obtain ⟨q1, q2, q3, q4, q5⟩ := h.el i x y hx hy
  have a1 := as_pl (off := 0) (n := y.key.length) hp q1 (by omega)
  have a2 := as_pl (off := 0) (n := y.val.length) hp q3 (by omega)
  rw [whole] at a1 a2
  unfold rrA recA
  rw [q2, q4, q5]
  exact asL_cons a1 (asL_cons a2 (asL_cons as_val asL_nil))
theorem sameR_own {rs rs' : List Rr} {ps ps' : List (List UInt8)} {la lb : List RK} (h : RRel rs ps la) (h' : RRel rs' ps' lb) (hb : ∀ r ∈ la, r.key.length ≤ 140737488355328 ∧ r.val.length ≤ 140737488355328) (hl : la.length ≤ 140737488355328) (na nb va wa vb wb : Nat) (hna : na = rs.length) (hnb : nb = rs'.length) :
    Spec Tryd.prog 20 [.own 0 va 3 0 na, .own 2 vb 3 0 nb] [⟨va, .row 3 (rrA 1 wa) ⟨0, 0, 0, false⟩ rs⟩, ⟨wa, .pool ps⟩, ⟨vb, .row 3 (rrA 3 wb) ⟨0, 0, 0, false⟩ rs'⟩, ⟨wb, .pool ps'⟩]
      (pms (.val (.bool (decide (la = lb)))) [⟨va, .row 3 (rrA 1 wa) ⟨0, 0, 0, false⟩ rs⟩, ⟨wa, .pool ps⟩, ⟨vb, .row 3 (rrA 3 wb) ⟨0, 0, 0, false⟩ rs'⟩, ⟨wb, .pool ps'⟩] []) :=
  spec_ro (sameR_vc 0 0 la lb hb hl) trivial trivial (rows := [⟨va, .row 3 (rrA 1 wa) ⟨0, 0, 0, false⟩ rs⟩, ⟨wa, .pool ps⟩, ⟨vb, .row 3 (rrA 3 wb) ⟨0, 0, 0, false⟩ rs'⟩, ⟨wb, .pool ps'⟩]) (args := [.own 0 va 3 0 na, .own 2 vb 3 0 nb])
    (asL_cons (as_recs h rfl rfl hna) (asL_cons (as_recs h' rfl rfl hnb) asL_nil))
end Go.Proofs.YtddocchgikaahaaDoor
