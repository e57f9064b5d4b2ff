/- Walks of nvram: tidy. Conditions: none. -/
import Derived.Test.YtpbpiehcchannaaGreatDoorJNv7
namespace Go.Proofs.YtpbpiehcchannaaGreatDoor
open Go.RowKit
set_option linter.unusedVariables false
set_option linter.unusedSimpArgs false
set_option maxRecDepth 100000
set_option maxHeartbeats 1500000
structure TS where
 k : Nat
 s : FlS
theorem tidy0 {W : Int} {n k : Nat} (s : FlS) (c : Nat) (g : Goes W n k s) (hW : W ≤ 1000000000000000000) (pa : Lies n k 0 c) (pb : Lies n k c c) (hd : s.dd = false) (hi : (s.cnt c).1 = 0) (vs va vb v0 v1 : Nat) : Spec Tryz.prog 71 [.ref 0 vs 3 0 0] [⟨vs, .obj [.ref 3 v0 6 0 0, .ref 1 va 3 0 0, .ref 2 vb 3 0 0]⟩, ⟨va, .obj [.ref 3 v0 6 0 0, .val (.int .i64 ((0 : Nat) : Int)), .val (.int .i64 (c : Int))]⟩, ⟨vb, .obj [.ref 3 v0 6 0 0, .val (.int .i64 (c : Int)), .val (.int .i64 (c : Int))]⟩, ⟨v0, .obj [.own 4 v1 1 0 s.l.length, .val (.int .i64 (s.k : Int)), .val (.int .i64 s.ar), .val (.int .i64 s.pt), .val (.bool s.dd), .val (.int .i64 s.wr)]⟩, ⟨v1, .bytes s.l⟩]
   (pms (.val (.int .i64 (s.tidy c).1)) [⟨vs, .obj [.ref 3 v0 6 0 0, .ref 1 va 3 0 0, .ref 2 vb 3 0 0]⟩, ⟨va, .obj [.ref 3 v0 6 0 0, .val (.int .i64 ((0 : Nat) : Int)), .val (.int .i64 (c : Int))]⟩, ⟨vb, .obj [.ref 3 v0 6 0 0, .val (.int .i64 (c : Int)), .val (.int .i64 (c : Int))]⟩, ⟨v0, .obj [.own 4 v1 1 0 (s.tidy c).2.l.length, .val (.int .i64 ((s.tidy c).2.k : Int)), .val (.int .i64 (s.tidy c).2.ar), .val (.int .i64 (s.tidy c).2.pt), .val (.bool (s.tidy c).2.dd), .val (.int .i64 (s.tidy c).2.wr)]⟩, ⟨v1, .bytes (s.tidy c).2.l⟩] []) := by
 have hcv := counts_vc s c g pa pb vs va vb v0 v1
 rw [hi] at hcv
 obtain ⟨l, e, b, hS⟩ : ∃ l e b, s.scan 0 c = (l, e, b) := ⟨_, _, _, rfl⟩
 have hT : s.tidy c = s.tidyL 0 c (l.map rkOf) 0 l.length := by
  unfold FlS.tidy FlS.recK FlS.recs
  rw [hd, hi, if_neg (by simp), show 0 * c = 0 by omega, hS, List.length_map]
 rw [hT]
 have hsc := Scan_live s 0 c g pa hd l.length (by rw [hS]) va v0 v1
 rw [hS] at hsc
 have hbd := look_bound g pa hS
 have hfw := look_few g pa hS
 clear hT hS
 generalize hT0 : s.tidyL 0 c (l.map rkOf) 0 l.length = T0
 refine spec_entry tbOk Tryz.func71 rfl Tryz.ntmps71 Tryz.results71 ?_
 refine gg (k := ?_)
 refine cmks (hcv) Tryz.call69 5 [0, 1, 2, 3, 4] [0, 0, 0, 0, 0] [] ?_
 refine gg (k := ?_)
 refine cmks (hsc) Tryz.call115 (he := ⟨fun _ => ⟨rfl, rfl, trivial, trivial⟩, trivial, trivial⟩) 3 [1, 3, 4, 0, 0, 0, 0, 0, 0, 0, 0, 0, 0, 32, 33] [0, 0, 0, 0, 0, 0, 0, 0, 0, 0, 0, 0, 0, 1, 1] [13, 14] ?_
 refine gg (k := ?_)
 (refine sts (k := ?_))
 conv => whnf
 refine loop_at (fun y : TS => y.k ≤ l.length ∧ y.s.tidyL 0 c (l.map rkOf) y.k (l.length - y.k) = T0 ∧ Goes (W + y.k) n k y.s) (fun y => l.length - y.k) 5 [2, 10, 11, 12, 36, 37, 38, 39, 40, 41, 42, 43, 44, 45, 46, 47, 48, 49, 50, 51, 52, 53, 54, 55, 56, 57, 58, 59, 60, 61, 62] (fun y => [(36, .val (.int .i64 (y.k : Int)))]) (fun y => [(3, ⟨v0, .obj [.own 4 v1 1 0 y.s.l.length, .val (.int .i64 (y.s.k : Int)), .val (.int .i64 y.s.ar), .val (.int .i64 y.s.pt), .val (.bool y.s.dd), .val (.int .i64 y.s.wr)]⟩), (4, ⟨v1, .bytes y.s.l⟩)]) ⟨0, s⟩ ⟨Nat.zero_le _, hT0, by simpa using g⟩ ?_ ?_ ?_
 ·exact no_implicit_lambda% ten
 ·exact no_implicit_lambda% hen
 ·rintro ⟨j, t⟩ v ⟨j1, j2, j3⟩
  simp only at j1 j2 j3
  refine glp (k := ?_)
  refine gg (k := ?_)
  refine ⟨fun h' => ?_, fun h' => ?_⟩
  ·have hlt : j < l.length := by have := of_decide_eq_true h'; omega
   obtain ⟨d, hd'⟩ : ∃ d, l[j]? = some d := ⟨l[j], List.getElem?_eq_getElem hlt⟩
   obtain ⟨p0, p1⟩ := poolOf_get l j d hd'
   have hr : (rrOf 0 l).getD j ⟨0, 0, 0, false⟩ = ⟨2 * j, d.key.length, d.val.length, d.lv⟩ := by rw [List.getD_eq_getElem?_getD, rrOf_get l 0 j d hd', Nat.zero_add]; rfl
   have hrk : (l.map rkOf).getD j rk0 = rkOf d := by rw [List.getD_eq_getElem?_getD, List.getElem?_map, hd']; rfl
   have hrl : (rrOf 0 l).length = l.length := rrOf_len l 0
   rw [show l.length - j = (l.length - (j + 1)) + 1 by omega, FlS.tidyL, hrk] at j2
   refine gg (k := ?_)
   simp only [Int.toNat_natCast, Nat.zero_add]
   try ((conv => whnf); (refine And.intro ⟨rfl, ⟨rfl, by rw [hrl]; exact hlt⟩, Nat.le_of_ble_eq_true rfl⟩ ?_))
   rw [hr]
   obtain ⟨dk, dv, dl, da⟩ := d
   cases dl with
   | false =>
    rw [if_neg (fun q => by cases q.1)] at j2
    refine gg (k := ?_)
    intro _
    refine gg (k := ?_)
    refine back_at ⟨j + 1, t⟩ ⟨hlt, j2, j3.mono (by simp only; omega)⟩ (by show l.length - (j + 1) < l.length - j; omega) ?_ ?_
    ·exact no_implicit_lambda% ten
    ·exact no_implicit_lambda% hen
   | true =>
    refine gg (k := ?_)
    refine cmks (last_own (RRel.of l) hbd p0 l.length dk.length (l.length + 2 + 1) 3 (rrOf_len l 0).symm rfl) Tryz.call82 (hrows := ⟨⟨fun _ => ⟨Nat.lt_succ_self 1, Nat.lt_succ_self 1, trivial, trivial⟩, rfl⟩, ⟨trivial, rfl⟩, trivial⟩) (hr2 := ⟨fun _ => ⟨rfl, rfl, trivial, trivial⟩, trivial, trivial⟩) 2 [32, 33] [0, 0] [] ?_
    by_cases hq : lastK (l.map rkOf) dk = (j : Int)
    ·rw [if_neg (fun q => q.2 hq)] at j2
     refine gg (k := ?_)
     rw [decide_eq_true hq]
     refine gg (k := ?_)
     refine back_at ⟨j + 1, t⟩ ⟨hlt, j2, j3.mono (by simp only; omega)⟩ (by show l.length - (j + 1) < l.length - j; omega) ?_ ?_
     ·exact no_implicit_lambda% ten
     ·exact no_implicit_lambda% hen
    ·rw [if_pos ⟨rfl, hq⟩] at j2
     have hkv := kill_vc t 0 c j3 (by omega) pa (j : Int) (by unfold I64; omega) va v0 v1
     have gk := j3.kill 0 c (j : Int)
     generalize t.kill 0 c (j : Int) = T at j2 hkv gk
     refine gg (k := ?_)
     rw [decide_eq_false hq]
     refine gg (k := ?_)
     refine cmks (hkv) Tryz.call83 3 [1, 3, 4] [0, 0, 0] [] ?_
     by_cases hz : T.1 = 0
     ·rw [if_pos hz] at j2
      refine gg (k := ?_)
      rw [decide_eq_true hz]
      refine gg (k := ?_)
      refine back_at ⟨j + 1, T.2⟩ ⟨hlt, j2, gk.mono (by simp only; omega)⟩ (by show l.length - (j + 1) < l.length - j; omega) ?_ ?_
      ·exact no_implicit_lambda% ten
      ·exact no_implicit_lambda% hen
     ·rw [if_neg hz] at j2
      subst j2
      refine gg (k := ?_)
      exact ⟨_, rfl, rfl, trivial⟩
  ·obtain rfl : j = l.length := by have := of_decide_eq_false h'; omega
   rw [Nat.sub_self, FlS.tidyL] at j2
   subst j2
   refine gg (k := ?_)
   exact ⟨_, rfl, rfl, trivial⟩
theorem tidy1 {W : Int} {n k : Nat} (s : FlS) (c : Nat) (g : Goes W n k s) (hW : W ≤ 1000000000000000000) (pa : Lies n k 0 c) (pb : Lies n k c c) (hd : s.dd = false) (hi : (s.cnt c).1 = 1) (vs va vb v0 v1 : Nat) : Spec Tryz.prog 71 [.ref 0 vs 3 0 0] [⟨vs, .obj [.ref 3 v0 6 0 0, .ref 1 va 3 0 0, .ref 2 vb 3 0 0]⟩, ⟨va, .obj [.ref 3 v0 6 0 0, .val (.int .i64 ((0 : Nat) : Int)), .val (.int .i64 (c : Int))]⟩, ⟨vb, .obj [.ref 3 v0 6 0 0, .val (.int .i64 (c : Int)), .val (.int .i64 (c : Int))]⟩, ⟨v0, .obj [.own 4 v1 1 0 s.l.length, .val (.int .i64 (s.k : Int)), .val (.int .i64 s.ar), .val (.int .i64 s.pt), .val (.bool s.dd), .val (.int .i64 s.wr)]⟩, ⟨v1, .bytes s.l⟩]
   (pms (.val (.int .i64 (s.tidy c).1)) [⟨vs, .obj [.ref 3 v0 6 0 0, .ref 1 va 3 0 0, .ref 2 vb 3 0 0]⟩, ⟨va, .obj [.ref 3 v0 6 0 0, .val (.int .i64 ((0 : Nat) : Int)), .val (.int .i64 (c : Int))]⟩, ⟨vb, .obj [.ref 3 v0 6 0 0, .val (.int .i64 (c : Int)), .val (.int .i64 (c : Int))]⟩, ⟨v0, .obj [.own 4 v1 1 0 (s.tidy c).2.l.length, .val (.int .i64 ((s.tidy c).2.k : Int)), .val (.int .i64 (s.tidy c).2.ar), .val (.int .i64 (s.tidy c).2.pt), .val (.bool (s.tidy c).2.dd), .val (.int .i64 (s.tidy c).2.wr)]⟩, ⟨v1, .bytes (s.tidy c).2.l⟩] []) := by
 have hcv := counts_vc s c g pa pb vs va vb v0 v1
 rw [hi] at hcv
 obtain ⟨l, e, b, hS⟩ : ∃ l e b, s.scan c c = (l, e, b) := ⟨_, _, _, rfl⟩
 have hT : s.tidy c = s.tidyL c c (l.map rkOf) 0 l.length := by
  unfold FlS.tidy FlS.recK FlS.recs
  rw [hd, hi, if_neg (by simp), show 1 * c = c by omega, hS, List.length_map]
 rw [hT]
 have hsc := Scan_live s c c g pb hd l.length (by rw [hS]) vb v0 v1
 rw [hS] at hsc
 have hbd := look_bound g pb hS
 have hfw := look_few g pb hS
 clear hT hS
 generalize hT0 : s.tidyL c c (l.map rkOf) 0 l.length = T0
 refine spec_entry tbOk Tryz.func71 rfl Tryz.ntmps71 Tryz.results71 ?_
 refine gg (k := ?_)
 refine cmks (hcv) Tryz.call69 5 [0, 1, 2, 3, 4] [0, 0, 0, 0, 0] [] ?_
 refine gg (k := ?_)
 refine cmks (hsc) Tryz.call115 (he := ⟨fun _ => ⟨rfl, rfl, trivial, trivial⟩, trivial, trivial⟩) 3 [2, 3, 4, 0, 0, 0, 0, 0, 0, 0, 0, 0, 0, 32, 33] [0, 0, 0, 0, 0, 0, 0, 0, 0, 0, 0, 0, 0, 1, 1] [13, 14] ?_
 refine gg (k := ?_)
 (refine sts (k := ?_))
 conv => whnf
 refine loop_at (fun y : TS => y.k ≤ l.length ∧ y.s.tidyL c c (l.map rkOf) y.k (l.length - y.k) = T0 ∧ Goes (W + y.k) n k y.s) (fun y => l.length - y.k) 5 [2, 10, 11, 12, 36, 37, 38, 39, 40, 41, 42, 43, 44, 45, 46, 47, 48, 49, 50, 51, 52, 53, 54, 55, 56, 57, 58, 59, 60, 61, 62] (fun y => [(36, .val (.int .i64 (y.k : Int)))]) (fun y => [(3, ⟨v0, .obj [.own 4 v1 1 0 y.s.l.length, .val (.int .i64 (y.s.k : Int)), .val (.int .i64 y.s.ar), .val (.int .i64 y.s.pt), .val (.bool y.s.dd), .val (.int .i64 y.s.wr)]⟩), (4, ⟨v1, .bytes y.s.l⟩)]) ⟨0, s⟩ ⟨Nat.zero_le _, hT0, by simpa using g⟩ ?_ ?_ ?_
 ·exact no_implicit_lambda% ten
 ·exact no_implicit_lambda% hen
 ·rintro ⟨j, t⟩ v ⟨j1, j2, j3⟩
  simp only at j1 j2 j3
  refine glp (k := ?_)
  refine gg (k := ?_)
  refine ⟨fun h' => ?_, fun h' => ?_⟩
  ·have hlt : j < l.length := by have := of_decide_eq_true h'; omega
   obtain ⟨d, hd'⟩ : ∃ d, l[j]? = some d := ⟨l[j], List.getElem?_eq_getElem hlt⟩
   obtain ⟨p0, p1⟩ := poolOf_get l j d hd'
   have hr : (rrOf 0 l).getD j ⟨0, 0, 0, false⟩ = ⟨2 * j, d.key.length, d.val.length, d.lv⟩ := by rw [List.getD_eq_getElem?_getD, rrOf_get l 0 j d hd', Nat.zero_add]; rfl
   have hrk : (l.map rkOf).getD j rk0 = rkOf d := by rw [List.getD_eq_getElem?_getD, List.getElem?_map, hd']; rfl
   have hrl : (rrOf 0 l).length = l.length := rrOf_len l 0
   rw [show l.length - j = (l.length - (j + 1)) + 1 by omega, FlS.tidyL, hrk] at j2
   refine gg (k := ?_)
   simp only [Int.toNat_natCast, Nat.zero_add]
   try ((conv => whnf); (refine And.intro ⟨rfl, ⟨rfl, by rw [hrl]; exact hlt⟩, Nat.le_of_ble_eq_true rfl⟩ ?_))
   rw [hr]
   obtain ⟨dk, dv, dl, da⟩ := d
   cases dl with
   | false =>
    rw [if_neg (fun q => by cases q.1)] at j2
    refine gg (k := ?_)
    intro _
    refine gg (k := ?_)
    refine back_at ⟨j + 1, t⟩ ⟨hlt, j2, j3.mono (by simp only; omega)⟩ (by show l.length - (j + 1) < l.length - j; omega) ?_ ?_
    ·exact no_implicit_lambda% ten
    ·exact no_implicit_lambda% hen
   | true =>
    refine gg (k := ?_)
    refine cmks (last_own (RRel.of l) hbd p0 l.length dk.length (l.length + 2 + 1) 3 (rrOf_len l 0).symm rfl) Tryz.call82 (hrows := ⟨⟨fun _ => ⟨Nat.lt_succ_self 1, Nat.lt_succ_self 1, trivial, trivial⟩, rfl⟩, ⟨trivial, rfl⟩, trivial⟩) (hr2 := ⟨fun _ => ⟨rfl, rfl, trivial, trivial⟩, trivial, trivial⟩) 2 [32, 33] [0, 0] [] ?_
    by_cases hq : lastK (l.map rkOf) dk = (j : Int)
    ·rw [if_neg (fun q => q.2 hq)] at j2
     refine gg (k := ?_)
     rw [decide_eq_true hq]
     refine gg (k := ?_)
     refine back_at ⟨j + 1, t⟩ ⟨hlt, j2, j3.mono (by simp only; omega)⟩ (by show l.length - (j + 1) < l.length - j; omega) ?_ ?_
     ·exact no_implicit_lambda% ten
     ·exact no_implicit_lambda% hen
    ·rw [if_pos ⟨rfl, hq⟩] at j2
     have hkv := kill_vc t c c j3 (by omega) pb (j : Int) (by unfold I64; omega) vb v0 v1
     have gk := j3.kill c c (j : Int)
     generalize t.kill c c (j : Int) = T at j2 hkv gk
     refine gg (k := ?_)
     rw [decide_eq_false hq]
     refine gg (k := ?_)
     refine cmks (hkv) Tryz.call83 3 [2, 3, 4] [0, 0, 0] [] ?_
     by_cases hz : T.1 = 0
     ·rw [if_pos hz] at j2
      refine gg (k := ?_)
      rw [decide_eq_true hz]
      refine gg (k := ?_)
      refine back_at ⟨j + 1, T.2⟩ ⟨hlt, j2, gk.mono (by simp only; omega)⟩ (by show l.length - (j + 1) < l.length - j; omega) ?_ ?_
      ·exact no_implicit_lambda% ten
      ·exact no_implicit_lambda% hen
     ·rw [if_neg hz] at j2
      subst j2
      refine gg (k := ?_)
      exact ⟨_, rfl, rfl, trivial⟩
  ·obtain rfl : j = l.length := by have := of_decide_eq_false h'; omega
   rw [Nat.sub_self, FlS.tidyL] at j2
   subst j2
   refine gg (k := ?_)
   exact ⟨_, rfl, rfl, trivial⟩
theorem head_dead {s : FlS} (hd : s.dd = true) (a : Nat) : s.head a = (0, false, 6) := by
 unfold FlS.head
 rw [hd, if_pos rfl]
theorem cnt_dead {s : FlS} (hd : s.dd = true) (c : Nat) : s.cnt c = (0, 0, false) := by
 unfold FlS.cnt
 rw [head_dead hd, head_dead hd]
 rfl
theorem tidy_dead {W : Int} {n k : Nat} (s : FlS) (c : Nat) (g : Goes W n k s) (pa : Lies n k 0 c) (pb : Lies n k c c) (hd : s.dd = true) (vs va vb v0 v1 : Nat) : Spec Tryz.prog 71 [.ref 0 vs 3 0 0] [⟨vs, .obj [.ref 3 v0 6 0 0, .ref 1 va 3 0 0, .ref 2 vb 3 0 0]⟩, ⟨va, .obj [.ref 3 v0 6 0 0, .val (.int .i64 ((0 : Nat) : Int)), .val (.int .i64 (c : Int))]⟩, ⟨vb, .obj [.ref 3 v0 6 0 0, .val (.int .i64 (c : Int)), .val (.int .i64 (c : Int))]⟩, ⟨v0, .obj [.own 4 v1 1 0 s.l.length, .val (.int .i64 (s.k : Int)), .val (.int .i64 s.ar), .val (.int .i64 s.pt), .val (.bool s.dd), .val (.int .i64 s.wr)]⟩, ⟨v1, .bytes s.l⟩]
   (pms (.val (.int .i64 6)) [⟨vs, .obj [.ref 3 v0 6 0 0, .ref 1 va 3 0 0, .ref 2 vb 3 0 0]⟩, ⟨va, .obj [.ref 3 v0 6 0 0, .val (.int .i64 ((0 : Nat) : Int)), .val (.int .i64 (c : Int))]⟩, ⟨vb, .obj [.ref 3 v0 6 0 0, .val (.int .i64 (c : Int)), .val (.int .i64 (c : Int))]⟩, ⟨v0, .obj [.own 4 v1 1 0 s.l.length, .val (.int .i64 (s.k : Int)), .val (.int .i64 s.ar), .val (.int .i64 s.pt), .val (.bool s.dd), .val (.int .i64 s.wr)]⟩, ⟨v1, .bytes s.l⟩] []) := by
 have hcv := counts_vc s c g pa pb vs va vb v0 v1
 rw [cnt_dead hd] at hcv
 refine spec_entry tbOk Tryz.func71 rfl Tryz.ntmps71 Tryz.results71 ?_
 refine gg (k := ?_)
 refine cmks (hcv) Tryz.call69 5 [0, 1, 2, 3, 4] [0, 0, 0, 0, 0] [] ?_
 refine gg (k := ?_)
 refine cmks (Scan_dead s 0 c g pa hd va v0 v1) Tryz.call115 3 [1, 3, 4] [0, 0, 0] [] ?_
 refine gg (k := ?_)
 exact ⟨_, rfl, rfl, trivial⟩
end Go.Proofs.YtpbpiehcchannaaGreatDoor
