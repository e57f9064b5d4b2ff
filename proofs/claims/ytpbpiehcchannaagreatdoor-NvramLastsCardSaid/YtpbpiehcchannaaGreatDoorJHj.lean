/- Walks of lintellaw09: sameList, holds, vast, twin. Walks of lintellaw09: vast, twin. Walks of lintellaw09: holds. Conditions: the premises of each law. -/
import Derived.Test.YtpbpiehcchannaaGreatDoorJNr2
import Derived.Test.YtpbpiehcchannaaGreatDoorJHk
import Derived.Test.YtpbpiehcchannaaGreatDoorJHq
namespace Go.Proofs.YtpbpiehcchannaaGreatDoor
open Go.RowKit
set_option linter.unusedVariables false
set_option linter.unusedSimpArgs false
set_option maxRecDepth 100000
set_option maxHeartbeats 1500000
theorem sameL_vc (z z' : Nat) (a b : List (List UInt8)) (hb : ∀ r ∈ a, r.length ≤ 140737488355328) (hl : a.length ≤ 140737488355328) : Spec Tryz.prog 73 [.sl z 1 (fun k : List UInt8 => [AV.bs z k]) [] a, .sl z' 1 (fun k : List UInt8 => [AV.bs z' k]) [] b] [] (pms (.val (.bool (decide (a = b)))) [] []) := by
 refine spec_entry tbOk Tryz.func73 rfl Tryz.ntmps73 Tryz.results73 ?_
 refine gg (k := ?_)
 refine ⟨fun h => ?_, fun h => ?_⟩
 ·have hne : a.length ≠ b.length := fun q => by rw [q] at h; simp at h
  have hab : a ≠ b := fun q => hne (by rw [q])
  refine gg (k := ?_)
  rw [decide_eq_false hab]
  exact ⟨_, rfl, rfl, trivial⟩
 have hab : a.length = b.length := by simp at h; omega
 refine gg (k := ?_)
 (refine sts (k := ?_))
 conv => whnf
 refine loop_at (fun i : Nat => i ≤ a.length ∧ a.take i = b.take i) (fun i => a.length - i) 0 [4, 5, 11, 12, 13, 14, 15, 16, 17, 18, 19, 20, 21, 22, 23, 24, 25, 26] (fun i => [(4, .val (.bool false)), (5, .val (.int .i64 (i : Int)))]) (fun i => []) 0 ⟨Nat.zero_le _, by simp⟩ ?_ ?_ ?_
 ·exact no_implicit_lambda% ten
 ·exact no_implicit_lambda% hen
 ·rintro i v ⟨i1, i2⟩
  refine glp (k := ?_)
  refine gg (k := ?_)
  refine ⟨fun h => ?_, fun h => ?_⟩
  ·have hlt : i < a.length := by have := of_decide_eq_true h; omega
   have hlb : i < b.length := by omega
   have hmem : a.getD i [] ∈ a := by rw [List.getD_eq_getElem?_getD, List.getElem?_eq_getElem hlt]; exact List.getElem_mem hlt
   have hk := hb _ hmem
   have hnx := take_next (d := []) hlt hlb i2
   have hno : a.getD i [] ≠ b.getD i [] → a ≠ b := fun q e => q (by rw [e])
   generalize hx : a.getD i [] = x at hk hnx hno
   generalize hy : b.getD i [] = y at hnx hno
   refine gg (k := ?_)
   (refine sts (k := ?_))
   refine draw_of (p := 0) tbOk hm [0, 0, 3, 7, 0, 0, 48, 112, 255, 511] [⟨0, false, false, []⟩, ⟨1, false, false, []⟩, ⟨2, true, false, [20, 21, 22, 23, 24, 25, 26]⟩, ⟨3, true, false, [21, 22, 23, 24, 25, 26]⟩, ⟨4, false, false, []⟩, ⟨5, false, false, []⟩, ⟨6, true, false, [17, 18, 19, 20, 24, 25, 26]⟩, ⟨7, true, false, [17, 18, 19, 20, 25, 26]⟩, ⟨8, true, true, [26]⟩, ⟨9, false, false, []⟩] (by kernel_rfl) ?_
   refine gg (k := ?_)
   (try simp only [Int.toNat_natCast, hx, hy])
   refine cmks (same_vc z z' x y hk) Tryz.call19 0 [] [] [] ?_
   by_cases hkk : x = y
   ·rw [decide_eq_true hkk]
    refine gg (k := ?_)
    refine back_at (i + 1) ⟨hlt, hnx hkk⟩ (by show a.length - (i + 1) < a.length - i; omega) ?_ ?_
    ·exact no_implicit_lambda% ten
    ·exact no_implicit_lambda% hen
   ·rw [decide_eq_false hkk]
    refine gg (k := ?_)
    rw [decide_eq_false (hno hkk)]
    exact ⟨_, rfl, rfl, trivial⟩
  ·refine gg (k := ?_)
   have hi : i = a.length := by have := of_decide_eq_false h; omega
   subst hi
   rw [List.take_length, hab, List.take_length] at i2
   rw [decide_eq_true i2]
   exact ⟨_, rfl, rfl, trivial⟩
end Go.Proofs.YtpbpiehcchannaaGreatDoor
namespace Go.Proofs.YtpbpiehcchannaaGreatDoor
open Go.RowKit
set_option linter.unusedVariables false
set_option linter.unusedSimpArgs false
set_option maxRecDepth 100000
set_option maxHeartbeats 1500000
def vast9B (s k : Int) (l : List OpB) : Bool := decide (80 < l.length ∨ 8 < s ∨ 1024 < k) || decide (131072 < sumV l)
theorem vast9_vc (z : Nat) (s k : Int) (l : List OpB) : Spec Tryz.prog 12 [.val (.int .i64 s), .val (.int .i64 k), .sl z 5 (opB z) opB0 l] [] (pms (.val (.bool (vast9B s k l))) [] []) := by
 refine spec_entry tbOk Tryz.func12 rfl Tryz.ntmps12 Tryz.results12 ?_
 refine gg (k := ?_)
 by_cases hn : 80 < l.length ∨ 8 < s ∨ 1024 < k
 ·have hv : vast9B s k l = true := by
    unfold vast9B
    rw [decide_eq_true hn]
    rfl
  rw [hv]
  refine gg (k := ?_)
  exact ⟨_, rfl, rfl, trivial⟩
 have hv2 : vast9B s k l = decide (131072 < sumV l) := by unfold vast9B; rw [decide_eq_false hn, Bool.false_or]
 rw [hv2]
 clear hv2
 refine gg (k := ?_)
 (refine sts (k := ?_))
 conv => whnf
 refine loop_at (fun i : Nat => i ≤ l.length ∧ sumV (l.take i) ≤ 131072) (fun i => l.length - i) 0 [6, 7, 8, 20, 21, 22, 23, 24, 25, 26, 27, 28, 29, 30, 31, 32, 33, 34, 35, 36, 37, 38, 39, 40, 41, 42, 43, 44] (fun i => [(6, .val (.bool false)), (7, .val (.int .i64 (sumV (l.take i)))), (8, .val (.int .i64 i))]) (fun i => []) 0 ⟨Nat.zero_le _, by simp [sumV]⟩ ?_ ?_ ?_
 ·exact no_implicit_lambda% ten
 ·exact no_implicit_lambda% hen
 ·rintro i v ⟨i1, i2⟩
  have i0 := sumV_nonneg (l.take i)
  refine glp (k := ?_)
  refine gg (k := ?_)
  refine ⟨fun h => ?_, fun h => ?_⟩
  ·have hlt : i < l.length := by have := of_decide_eq_true h; omega
   have hs := sumV_take hlt
   have hs0 := sumV_nonneg (l.take (i + 1))
   refine gg (k := ?_)
   (refine sts (k := ?_))
   refine draw_of (p := 0) tbOk hm [0, 0, 0, 6, 14, 30, 62, 126, 255, 0, 0, 1536, 3584, 7680, 15872, 32256, 65535, 131071] [⟨0, false, false, []⟩, ⟨1, false, false, []⟩, ⟨2, false, false, []⟩, ⟨3, true, false, [26, 30, 31, 32, 33, 34, 35, 36, 37, 38, 39, 40, 41, 42, 7]⟩, ⟨4, true, false, [26, 31, 32, 33, 34, 35, 36, 37, 38, 39, 40, 41, 42, 7]⟩, ⟨5, true, false, [26, 32, 33, 34, 35, 36, 37, 38, 39, 40, 41, 42, 7]⟩, ⟨6, true, false, [26, 33, 34, 35, 36, 37, 38, 39, 40, 41, 42, 7]⟩, ⟨7, false, false, []⟩, ⟨8, false, false, []⟩, ⟨9, false, false, []⟩, ⟨10, false, false, []⟩, ⟨11, true, false, [26, 27, 28, 29, 30, 31, 32, 33, 34, 38, 39, 40, 41, 42, 7]⟩, ⟨12, true, false, [26, 27, 28, 29, 30, 31, 32, 33, 34, 39, 40, 41, 42, 7]⟩, ⟨13, true, false, [26, 27, 28, 29, 30, 31, 32, 33, 34, 40, 41, 42, 7]⟩, ⟨14, true, false, [26, 27, 28, 29, 30, 31, 32, 33, 34, 41, 42, 7]⟩, ⟨15, false, false, []⟩, ⟨16, false, false, []⟩, ⟨17, false, false, []⟩] (by kernel_rfl) ?_
   refine gg (k := ?_)
   simp only [Bool.false_eq_true, if_false, Int.toNat_natCast]
   refine gg (k := ?_)
   simp only [Bool.false_eq_true, if_false, Int.toNat_natCast]
   refine gg (k := ?_)
   have hle := sumV_le l (i + 1)
   have hsum : sumV (l.take i) + min ((l.getD i opB0).key.length : Int) 262144 + min ((l.getD i opB0).val.length : Int) 262144 = sumV (l.take (i + 1)) := by rw [hs]; omega
   rw [hsum]
   refine ⟨fun h => ?_, fun h => ?_⟩
   ·have hb := of_decide_eq_true h
    refine gg (k := ?_)
    rw [decide_eq_true (by omega : 131072 < sumV l)]
    exact ⟨_, rfl, rfl, trivial⟩
   ·have hb := of_decide_eq_false h
    refine gg (k := ?_)
    refine back_at (i + 1) ⟨hlt, by omega⟩ (by show l.length - (i + 1) < l.length - i; omega) ?_ ?_
    ·exact no_implicit_lambda% ten
    ·exact no_implicit_lambda% hen
  ·refine gg (k := ?_)
   have hi : i = l.length := by have := of_decide_eq_false h; omega
   subst hi
   rw [List.take_length] at i2
   rw [decide_eq_false (by omega : ¬ 131072 < sumV l)]
   exact ⟨_, rfl, rfl, trivial⟩
theorem twin9_raw (z : Nat) (m : List UInt8) (hl : m.length ≤ 140737488355328) : Spec Tryz.prog 23 [.bs z m] [] (pms (.own 3 2 1 0 m.length) [] [(3, ⟨2, .bytes m⟩)]) := by
 refine spec_entry tbOk Tryz.func23 rfl Tryz.ntmps23 Tryz.results23 ?_
 refine gg (k := ?_)
 conv => whnf
 refine ⟨m, ?_⟩
 conv => whnf
 refine And.intro ?_ ?_
 ·refine ⟨rfl, trivial, rfl, rfl, rfl, rfl, rfl, rfl, ?_, by decide⟩
  simp only [List.map_nil, List.length_nil]
  omega
 refine gg (k := ?_)
 refine ⟨_, ?_, rfl, rfl, trivial⟩
 simp only [retV, List.map_nil, List.length_nil, Nat.zero_add]
theorem twin9_vc (z : Nat) (m : List UInt8) (hl : m.length ≤ 140737488355328) : Spec Tryz.prog 23 [.bs z m] [] (pms (.bs 0 m) [] []) :=
 spec_frz (twin9_raw z m hl) (by simp [geM]) (AF.own rfl rfl) trivial
end Go.Proofs.YtpbpiehcchannaaGreatDoor
namespace Go.Proofs.YtpbpiehcchannaaGreatDoor
open Go.RowKit
set_option linter.unusedVariables false
set_option linter.unusedSimpArgs false
set_option maxRecDepth 100000
set_option maxHeartbeats 1500000
def eqR (R R' : List RK) : Bool := decide (ksR R = ksR R' ∧ vsR R = vsR R')
theorem usedK_eq {R R' : List RK} (h : ksR R = ksR R' ∧ vsR R = vsR R') : usedK R = usedK R' := by rw [← usedM_all, ← usedM_all, h.1, h.2]
theorem ksR_get {R : List RK} {i : Nat} (h : i < R.length) : (ksR R).getD i [] = R[i].key := by unfold ksR; rw [List.getD_eq_getElem?_getD, List.getElem?_map, List.getElem?_eq_getElem h]; rfl
theorem vsR_get {R : List RK} {i : Nat} (h : i < R.length) : (vsR R).getD i [] = R[i].val := by unfold vsR; rw [List.getD_eq_getElem?_getD, List.getElem?_map, List.getElem?_eq_getElem h]; rfl
theorem holds_vc {W : Int} {n k : Nat} (s : FlS) (c : Nat) {M R : List RK} (m : LK s c M) (rm : RM M R) (g : Goes W n k s) (pa : Lies n k 0 c) (pb : Lies n k c c) (hok : ∀ r ∈ R, OkK r) (hl : R.length ≤ 4096) (R' : List RK) (hok' : ∀ r ∈ R', OkK r) (hl' : R'.length ≤ 4096) (room : Int) (vs va vb v0 v1 vm : Nat) : Spec Tryz.prog 18 [.ref 0 vs 3 0 0, .ref 5 vm 3 0 0] [⟨vs, .obj [.ref 3 v0 6 0 0, .ref 1 va 3 0 0, .ref 2 vb 3 0 0]⟩, ⟨va, .obj [.ref 3 v0 6 0 0, .val (.int .i64 ((0 : Nat) : Int)), .val (.int .i64 (c : Int))]⟩, ⟨vb, .obj [.ref 3 v0 6 0 0, .val (.int .i64 (c : Int)), .val (.int .i64 (c : Int))]⟩, ⟨v0, .obj [.own 4 v1 1 0 s.l.length, .val (.int .i64 (s.k : Int)), .val (.int .i64 s.ar), .val (.int .i64 s.pt), .val (.bool s.dd), .val (.int .i64 s.wr)]⟩, ⟨v1, .bytes s.l⟩, ⟨vm, .obj [.sl 0 1 (fun k : List UInt8 => [AV.bs 0 k]) [] (ksR R'), .sl 0 1 (fun k : List UInt8 => [AV.bs 0 k]) [] (vsR R'), .val (.int .i64 room)]⟩]
   (pms (.val (.bool (eqR R R'))) [⟨vs, .obj [.ref 3 v0 6 0 0, .ref 1 va 3 0 0, .ref 2 vb 3 0 0]⟩, ⟨va, .obj [.ref 3 v0 6 0 0, .val (.int .i64 ((0 : Nat) : Int)), .val (.int .i64 (c : Int))]⟩, ⟨vb, .obj [.ref 3 v0 6 0 0, .val (.int .i64 (c : Int)), .val (.int .i64 (c : Int))]⟩, ⟨v0, .obj [.own 4 v1 1 0 s.l.length, .val (.int .i64 (s.k : Int)), .val (.int .i64 s.ar), .val (.int .i64 s.pt), .val (.bool s.dd), .val (.int .i64 s.wr)]⟩, ⟨v1, .bytes s.l⟩, ⟨vm, .obj [.sl 0 1 (fun k : List UInt8 => [AV.bs 0 k]) [] (ksR R'), .sl 0 1 (fun k : List UInt8 => [AV.bs 0 k]) [] (vsR R'), .val (.int .i64 room)]⟩] []) := by
 have hkm := keys_map s c m g pa pb vs va vb v0 v1
 rw [show srtK (M.map fun r => r.key) = ksR R from rm.keys] at hkm
 have hbn : ∀ q ∈ ksR R, q.length ≤ 140737488355328 := fun q hq => by have := (ok_bnd hok).1 q hq; omega
 have hkl := ksR_len R
 have hvl := vsR_len R
 have hkl' := ksR_len R'
 have hvl' := vsR_len R'
 refine spec_entry tbOk Tryz.func18 rfl Tryz.ntmps18 Tryz.results18 ?_
 refine gg (k := ?_)
 refine cmks (hkm) Tryz.call72 5 [0, 1, 2, 3, 4] [0, 0, 0, 0, 0] [] ?_
 refine gg (k := ?_)
 refine gcl (k := ?_)
 refine cmks (sameL_vc 0 0 (ksR R) (ksR R') hbn (by omega)) Tryz.call73 0 [] [] [] ?_
 by_cases he : ksR R = ksR R'
 case neg =>
  rw [decide_eq_false he]
  refine gg (k := ?_)
  rw [show eqR R R' = false from decide_eq_false fun q => he q.1]
  exact ⟨_, rfl, rfl, trivial⟩
 have hRR : R.length = R'.length := by rw [← hkl, he, hkl']
 rw [decide_eq_true he]
 refine gg (k := ?_)
 (refine sts (k := ?_))
 conv => whnf
 refine loop_at (fun i : Nat => i ≤ R.length ∧ (vsR R).take i = (vsR R').take i) (fun i => R.length - i) 6 [4, 7, 8, 9, 10, 28, 29, 30, 31, 32, 33, 34, 35, 36, 37, 38, 39, 40, 41, 42, 43, 44, 45, 46, 47, 48, 49, 50, 51, 52, 53, 54, 55, 56, 57, 58, 59, 60, 61] (fun i => [(4, .val (.bool false)), (7, .val (.int .i64 (i : Int)))]) (fun i => []) 0 ⟨Nat.zero_le _, by simp⟩ ?_ ?_ ?_
 ·exact no_implicit_lambda% ten
 ·exact no_implicit_lambda% hen
 ·rintro i v ⟨i1, i2⟩
  refine glp (k := ?_)
  refine gg (k := ?_)
  refine ⟨fun h => ?_, fun h => ?_⟩
  ·have hlt : i < R.length := by have := of_decide_eq_true h; omega
   have hkg := ksR_get hlt
   have hvg := vsR_get hlt
   have hmem : R[i] ∈ R := List.getElem_mem hlt
   have hnx := take_next (d := []) (a := vsR R) (b := vsR R') (by omega) (by omega) i2
   have hno : (vsR R).getD i [] ≠ (vsR R').getD i [] → vsR R ≠ vsR R' := fun q e => q (by rw [e])
   have hro := hok _ hmem
   rw [hvg] at hnx hno
   generalize hx : R[i] = x at hkg hmem hnx hno hro
   generalize hy : (vsR R').getD i [] = y at hnx hno
   refine gg (k := ?_)
   (try simp only [Int.toNat_natCast, hkg])
   refine cmks (get_map s c m g pa pb x (rm.perm.mem_iff.1 hmem) 0 vs va vb v0 v1) Tryz.call64 5 [0, 1, 2, 3, 4] [0, 0, 0, 0, 0] [] ?_
   refine gg (k := ?_)
   (try simp only [Int.toNat_natCast, hy])
   refine gcl (k := ?_)
   refine cmks (same_vc 0 0 x.val y (by have := hro.2; omega)) Tryz.call19 0 [] [] [] ?_
   by_cases hkk : x.val = y
   ·rw [decide_eq_true hkk]
    refine gg (k := ?_)
    refine back_at (i + 1) ⟨hlt, hnx hkk⟩ (by show R.length - (i + 1) < R.length - i; omega) ?_ ?_
    ·exact no_implicit_lambda% ten
    ·exact no_implicit_lambda% hen
   ·rw [decide_eq_false hkk]
    refine gg (k := ?_)
    rw [show eqR R R' = false from decide_eq_false fun q => hno hkk q.2]
    exact ⟨_, rfl, rfl, trivial⟩
  ·have hi : i = R.length := by have := of_decide_eq_false h; omega
   subst hi
   rw [List.take_of_length_le (by omega), List.take_of_length_le (by omega)] at i2
   have hus := used_map s c m g pa pb vs va vb v0 v1
   rw [← rm.used, usedK_eq ⟨he, i2⟩] at hus
   refine gg (k := ?_)
   refine cmks (hus) Tryz.call74 5 [0, 1, 2, 3, 4] [0, 0, 0, 0, 0] [] ?_
   refine gg (k := ?_)
   refine cmks (mused_vc R' hok' hl' room vm) Tryz.call75 1 [5] [0] [] ?_
   refine gg (k := ?_)
   rw [show eqR R R' = true from decide_eq_true ⟨he, i2⟩, decide_eq_true (rfl : (usedK R' : Int) = (usedK R' : Int))]
   exact ⟨_, rfl, rfl, trivial⟩
end Go.Proofs.YtpbpiehcchannaaGreatDoor
