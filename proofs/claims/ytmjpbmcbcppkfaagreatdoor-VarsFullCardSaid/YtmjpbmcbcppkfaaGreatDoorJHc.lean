/- Walks of nvram: begin. Walks of nvram: Room, copy. Walks of nvram: tidy. Conditions: the premises of each law. -/
import Derived.Test.YtmjpbmcbcppkfaaGreatDoorJHo
namespace Go.Proofs.YtmjpbmcbcppkfaaGreatDoor
open Go.RowKit
set_option linter.unusedVariables false
set_option linter.unusedSimpArgs false
set_option maxRecDepth 100000
set_option maxHeartbeats 1500000
theorem add_pl {W : Int} {n k : Nat} (s : FlS) (a c : Nat) (g : Goes W n k s) (hW : W ≤ 9000000000000000000) (p : Lies n k a c) (ps : List (List UInt8)) (key val : List UInt8) (i j kn vn : Nat) (hi : ps[i]? = some key) (hj : ps[j]? = some val) (hkn : kn = key.length) (hvn : vn = val.length) (hkl : key.length ≤ 140737488355328) (hvl : val.length ≤ 140737488355328) (vb v0 v1 v2 : Nat) : Spec Tryz.prog 116 [.ref 0 vb 3 0 0, .pl 3 v2 i 0 kn, .pl 3 v2 j 0 vn] [⟨vb, .obj [.ref 1 v0 6 0 0, .val (.int .i64 (a : Int)), .val (.int .i64 (c : Int))]⟩, ⟨v0, .obj [.own 2 v1 1 0 s.l.length, .val (.int .i64 (s.k : Int)), .val (.int .i64 s.ar), .val (.int .i64 s.pt), .val (.bool s.dd), .val (.int .i64 s.wr)]⟩, ⟨v1, .bytes s.l⟩, ⟨v2, .pool ps⟩]
   (pms (.val (.int .i64 (s.add a c key val).1)) [⟨vb, .obj [.ref 1 v0 6 0 0, .val (.int .i64 (a : Int)), .val (.int .i64 (c : Int))]⟩, ⟨v0, .obj [.own 2 v1 1 0 (s.add a c key val).2.l.length, .val (.int .i64 ((s.add a c key val).2.k : Int)), .val (.int .i64 (s.add a c key val).2.ar), .val (.int .i64 (s.add a c key val).2.pt), .val (.bool (s.add a c key val).2.dd), .val (.int .i64 (s.add a c key val).2.wr)]⟩, ⟨v1, .bytes (s.add a c key val).2.l⟩, ⟨v2, .pool ps⟩] []) := by
 subst hkn hvn
 have e := whole key
 have e' := whole val
 have h := spec_rx (add_vc s a c g hW p ((key.drop 0).take key.length) ((val.drop 0).take val.length) (by rw [e]; exact hkl) (by rw [e']; exact hvl) 0 0 vb v0 v1) (R := [⟨v2, .pool ps⟩]) (args := [.ref 0 vb 3 0 0, .pl 3 v2 i 0 key.length, .pl 3 v2 j 0 val.length])
  trivial ⟨⟨trivial, trivial, trivial, trivial⟩, ⟨trivial, trivial, trivial, trivial, trivial, trivial, trivial⟩, trivial, trivial⟩ ⟨⟨(by decide : 1 < 3), trivial, trivial, trivial⟩, ⟨(by decide : 2 < 3), trivial, trivial, trivial, trivial, trivial, trivial⟩, trivial, trivial⟩ ⟨⟨trivial, trivial, trivial, trivial⟩, ⟨trivial, trivial, trivial, trivial, trivial, trivial, trivial⟩, trivial, trivial⟩ rfl trivial trivial
  (asX_cons (aX_same trivial (by decide : 0 < 3)) (asX_cons (aX_pl (q := 0) (l := key) rfl hi (by omega)) (asX_cons (aX_pl (q := 0) (l := val) rfl hj (by omega)) asX_nil)))
 rw [e, e'] at h
 exact h
theorem adds_snoc (a c : Nat) (r : RK) : ∀ (l : List RK) (s : FlS), (s.adds a c l).1 = 0 → s.adds a c (l ++ [r]) = (s.adds a c l).2.add a c r.key r.val
 | [], s, _ => by
  show (if (s.add a c r.key r.val).1 = 0 then (0, (s.add a c r.key r.val).2) else s.add a c r.key r.val) = s.add a c r.key r.val
  split
  ·rename_i h; rw [← h]
  ·rfl
 | x :: l, s, h => by
  rw [FlS.adds] at h
  rw [List.cons_append, FlS.adds, FlS.adds]
  split at h
  ·rename_i h0
   rw [if_pos h0, if_pos h0]
   exact adds_snoc a c r l _ h
  ·rename_i h0; exact absurd h h0
theorem adds_stop (a c : Nat) (m : List RK) : ∀ (l : List RK) (s : FlS), (s.adds a c l).1 ≠ 0 → s.adds a c (l ++ m) = s.adds a c l
 | [], s, h => absurd rfl h
 | x :: l, s, h => by
  rw [FlS.adds] at h
  rw [List.cons_append, FlS.adds, FlS.adds]
  split at h
  ·rename_i h0
   rw [if_pos h0, if_pos h0]
   exact adds_stop a c m l _ h
  ·rename_i h0; rw [if_neg h0, if_neg h0]
theorem Goes.adds {n k : Nat} (a c : Nat) : ∀ (l : List RK) {B : Int} {s : FlS}, Goes B n k s → Goes (B + l.length * 65804) n k (s.adds a c l).2
 | [], B, s, h => h.mono (by simp)
 | x :: l, B, s, h => by
  rw [FlS.adds]
  split
  ·exact (Goes.adds a c l (h.add a c x.key x.val)).mono (by simp only [List.length_cons]; omega)
  ·exact (h.add a c x.key x.val).mono (by simp only [List.length_cons]; omega)
theorem begin0 {W : Int} {n k : Nat} (s : FlS) (c : Nat) (g : Goes W n k s) (hW : W ≤ 1000000000000000000) (pa : Lies n k 0 c) (pb : Lies n k c c) (gen : Int) (hgen : 0 ≤ gen ∧ gen ≤ 4294967295) {rs : List Rr} {ps : List (List UInt8)} {la : List RK} (h : RRel rs ps la) (hb : ∀ r ∈ la, r.key.length ≤ 140737488355328 ∧ r.val.length ≤ 140737488355328) (hl : la.length ≤ 4194304) (vs va vb v0 v1 vr vw N : Nat) (hN : N = rs.length) : Spec Tryz.prog 79 [.ref 0 vs 3 0 0, .ref 1 va 3 0 0, .val (.int .u32 gen), .own 5 vr 3 0 N] [⟨vs, .obj [.ref 3 v0 6 0 0, .ref 1 va 3 0 0, .ref 2 vb 3 0 0]⟩, ⟨va, .obj [.ref 3 v0 6 0 0, .val (.int .i64 ((0 : Nat) : Int)), .val (.int .i64 (c : Int))]⟩, ⟨vb, .obj [.ref 3 v0 6 0 0, .val (.int .i64 (c : Int)), .val (.int .i64 (c : Int))]⟩, ⟨v0, .obj [.own 4 v1 1 0 s.l.length, .val (.int .i64 (s.k : Int)), .val (.int .i64 s.ar), .val (.int .i64 s.pt), .val (.bool s.dd), .val (.int .i64 s.wr)]⟩, ⟨v1, .bytes s.l⟩, ⟨vr, .row 3 (rrA 6 vw) ⟨0, 0, 0, false⟩ rs⟩, ⟨vw, .pool ps⟩]
   (pms (.val (.int .i64 (s.bgn 0 c gen la).1)) [⟨vs, .obj [.ref 3 v0 6 0 0, .ref 1 va 3 0 0, .ref 2 vb 3 0 0]⟩, ⟨va, .obj [.ref 3 v0 6 0 0, .val (.int .i64 ((0 : Nat) : Int)), .val (.int .i64 (c : Int))]⟩, ⟨vb, .obj [.ref 3 v0 6 0 0, .val (.int .i64 (c : Int)), .val (.int .i64 (c : Int))]⟩, ⟨v0, .obj [.own 4 v1 1 0 (s.bgn 0 c gen la).2.l.length, .val (.int .i64 ((s.bgn 0 c gen la).2.k : Int)), .val (.int .i64 (s.bgn 0 c gen la).2.ar), .val (.int .i64 (s.bgn 0 c gen la).2.pt), .val (.bool (s.bgn 0 c gen la).2.dd), .val (.int .i64 (s.bgn 0 c gen la).2.wr)]⟩, ⟨v1, .bytes (s.bgn 0 c gen la).2.l⟩, ⟨vr, .row 3 (rrA 6 vw) ⟨0, 0, 0, false⟩ rs⟩, ⟨vw, .pool ps⟩] []) := by
 subst hN
 have hlen := h.len
 have hf := format_vc s 0 c g (by omega) pa gen hgen va v0 v1
 have gf := g.format 0 c gen
 have hck : c ≤ 4194304 := pa.ac.2
 refine spec_entry tbOk Tryz.func79 rfl Tryz.ntmps79 Tryz.results79 ?_
 unfold FlS.bgn
 generalize s.format 0 c gen = F at hf gf ⊢
 obtain ⟨f, t⟩ := F
 simp only at hf gf ⊢
 refine gg (k := ?_)
 refine cmks (hf) Tryz.call115 3 [1, 3, 4] [0, 0, 0] [] ?_
 by_cases h0 : f = 0
 ·subst h0
  rw [if_pos rfl]
  refine gg (k := ?_)
  (refine sts (k := ?_))
  conv => whnf
  refine loop_at (fun j : Nat => j ≤ la.length ∧ (t.adds 0 c (la.take j)).1 = 0) (fun j => la.length - j) 7 [8, 11, 12, 21, 22, 23, 24, 25, 26, 27, 28, 29, 30, 31, 32, 33, 34] (fun j => [(21, .val (.int .i64 (j : Int)))]) (fun j => [(3, ⟨v0, .obj [.own 4 v1 1 0 (t.adds 0 c (la.take j)).2.l.length, .val (.int .i64 ((t.adds 0 c (la.take j)).2.k : Int)), .val (.int .i64 (t.adds 0 c (la.take j)).2.ar), .val (.int .i64 (t.adds 0 c (la.take j)).2.pt), .val (.bool (t.adds 0 c (la.take j)).2.dd), .val (.int .i64 (t.adds 0 c (la.take j)).2.wr)]⟩), (4, ⟨v1, .bytes (t.adds 0 c (la.take j)).2.l⟩)]) 0 ⟨Nat.zero_le _, rfl⟩ ?_ ?_ ?_
  ·exact no_implicit_lambda% ten
  ·exact no_implicit_lambda% hen
  ·rintro j v ⟨j1, j2⟩
   have gj := gf.adds 0 c (la.take j)
   have hjl : (la.take j).length = j := by rw [List.length_take]; omega
   rw [hjl] at gj
   refine glp (k := ?_)
   refine gg (k := ?_)
   refine ⟨fun h' => ?_, fun h' => ?_⟩
   ·have hlt : j < la.length := by have := of_decide_eq_true h'; omega
    have hjr : j < rs.length := by omega
    obtain ⟨y1, y2, y3, y4, y5⟩ := h.el j _ _ (List.getElem?_eq_getElem hjr) (List.getElem?_eq_getElem hlt)
    have hg : rs.getD j ⟨0, 0, 0, false⟩ = rs[j] := by rw [List.getD_eq_getElem?_getD, List.getElem?_eq_getElem hjr]; rfl
    obtain ⟨hkb, hvb⟩ := hb _ (List.getElem_mem hlt)
    have hT : la.take (j + 1) = la.take j ++ [la[j]] := List.take_succ_eq_append_getElem hlt
    have hA := adds_snoc 0 c la[j] (la.take j) t j2
    rw [← hT] at hA
    have hS := adds_stop 0 c (la.drop (j + 1)) (la.take (j + 1)) t
    rw [List.take_append_drop] at hS
    generalize la[j] = y at y1 y2 y3 y4 y5 hkb hvb hA
    generalize rs[j] = x at hg y1 y2 y3 y4 y5
    refine gg (k := ?_)
    simp only [Int.toNat_natCast, Nat.zero_add]
    try ((conv => whnf); (refine And.intro ⟨rfl, ⟨rfl, hjr⟩, Nat.le_of_ble_eq_true rfl⟩ ?_))
    rw [hg]
    refine gg (k := ?_)
    refine cmks (add_pl (t.adds 0 c (la.take j)).2 0 c gj (by omega) pa ps y.key y.val x.i (x.i + 1) x.kn x.vn y1 y3 y2 y4 hkb hvb va v0 v1 vw) Tryz.call116 4 [1, 3, 4, 6] [0, 0, 0, 0] [] ?_
    rw [← hA]
    by_cases hz : (t.adds 0 c (la.take (j + 1))).1 = 0
    ·refine gg (k := ?_)
     rw [decide_eq_true hz]
     refine gg (k := ?_)
     refine back_at (j + 1) ⟨hlt, hz⟩ (by show la.length - (j + 1) < la.length - j; omega) ?_ ?_
     ·exact no_implicit_lambda% ten
     ·exact no_implicit_lambda% hen
    ·refine gg (k := ?_)
     rw [hS hz, if_neg hz]
     exact ⟨_, rfl, rfl, trivial⟩
   ·obtain rfl : j = la.length := by have := of_decide_eq_false h'; omega
    refine gg (k := ?_)
    refine cmks (ready_vc (t.adds 0 c (la.take la.length)).2 0 c gj (by omega) pa va v0 v1) Tryz.call117 3 [1, 3, 4] [0, 0, 0] [] ?_
    refine gg (k := ?_)
    rw [List.take_length] at j2 ⊢
    rw [if_pos j2]
    exact ⟨_, rfl, rfl, trivial⟩
 ·rw [if_neg h0]
  have hd0 : decide (f = 0) = false := decide_eq_false h0
  refine gg (k := ?_)
  exact ⟨_, rfl, rfl, trivial⟩
theorem begin1 {W : Int} {n k : Nat} (s : FlS) (c : Nat) (g : Goes W n k s) (hW : W ≤ 1000000000000000000) (pa : Lies n k 0 c) (pb : Lies n k c c) (gen : Int) (hgen : 0 ≤ gen ∧ gen ≤ 4294967295) {rs : List Rr} {ps : List (List UInt8)} {la : List RK} (h : RRel rs ps la) (hb : ∀ r ∈ la, r.key.length ≤ 140737488355328 ∧ r.val.length ≤ 140737488355328) (hl : la.length ≤ 4194304) (vs va vb v0 v1 vr vw N : Nat) (hN : N = rs.length) : Spec Tryz.prog 79 [.ref 0 vs 3 0 0, .ref 2 vb 3 0 0, .val (.int .u32 gen), .own 5 vr 3 0 N] [⟨vs, .obj [.ref 3 v0 6 0 0, .ref 1 va 3 0 0, .ref 2 vb 3 0 0]⟩, ⟨va, .obj [.ref 3 v0 6 0 0, .val (.int .i64 ((0 : Nat) : Int)), .val (.int .i64 (c : Int))]⟩, ⟨vb, .obj [.ref 3 v0 6 0 0, .val (.int .i64 (c : Int)), .val (.int .i64 (c : Int))]⟩, ⟨v0, .obj [.own 4 v1 1 0 s.l.length, .val (.int .i64 (s.k : Int)), .val (.int .i64 s.ar), .val (.int .i64 s.pt), .val (.bool s.dd), .val (.int .i64 s.wr)]⟩, ⟨v1, .bytes s.l⟩, ⟨vr, .row 3 (rrA 6 vw) ⟨0, 0, 0, false⟩ rs⟩, ⟨vw, .pool ps⟩]
   (pms (.val (.int .i64 (s.bgn c c gen la).1)) [⟨vs, .obj [.ref 3 v0 6 0 0, .ref 1 va 3 0 0, .ref 2 vb 3 0 0]⟩, ⟨va, .obj [.ref 3 v0 6 0 0, .val (.int .i64 ((0 : Nat) : Int)), .val (.int .i64 (c : Int))]⟩, ⟨vb, .obj [.ref 3 v0 6 0 0, .val (.int .i64 (c : Int)), .val (.int .i64 (c : Int))]⟩, ⟨v0, .obj [.own 4 v1 1 0 (s.bgn c c gen la).2.l.length, .val (.int .i64 ((s.bgn c c gen la).2.k : Int)), .val (.int .i64 (s.bgn c c gen la).2.ar), .val (.int .i64 (s.bgn c c gen la).2.pt), .val (.bool (s.bgn c c gen la).2.dd), .val (.int .i64 (s.bgn c c gen la).2.wr)]⟩, ⟨v1, .bytes (s.bgn c c gen la).2.l⟩, ⟨vr, .row 3 (rrA 6 vw) ⟨0, 0, 0, false⟩ rs⟩, ⟨vw, .pool ps⟩] []) := by
 subst hN
 have hlen := h.len
 have hf := format_vc s c c g (by omega) pb gen hgen vb v0 v1
 have gf := g.format c c gen
 have hck : c ≤ 4194304 := pa.ac.2
 refine spec_entry tbOk Tryz.func79 rfl Tryz.ntmps79 Tryz.results79 ?_
 unfold FlS.bgn
 generalize s.format c c gen = F at hf gf ⊢
 obtain ⟨f, t⟩ := F
 simp only at hf gf ⊢
 refine gg (k := ?_)
 refine cmks (hf) Tryz.call115 3 [2, 3, 4] [0, 0, 0] [] ?_
 by_cases h0 : f = 0
 ·subst h0
  rw [if_pos rfl]
  refine gg (k := ?_)
  (refine sts (k := ?_))
  conv => whnf
  refine loop_at (fun j : Nat => j ≤ la.length ∧ (t.adds c c (la.take j)).1 = 0) (fun j => la.length - j) 7 [8, 11, 12, 21, 22, 23, 24, 25, 26, 27, 28, 29, 30, 31, 32, 33, 34] (fun j => [(21, .val (.int .i64 (j : Int)))]) (fun j => [(3, ⟨v0, .obj [.own 4 v1 1 0 (t.adds c c (la.take j)).2.l.length, .val (.int .i64 ((t.adds c c (la.take j)).2.k : Int)), .val (.int .i64 (t.adds c c (la.take j)).2.ar), .val (.int .i64 (t.adds c c (la.take j)).2.pt), .val (.bool (t.adds c c (la.take j)).2.dd), .val (.int .i64 (t.adds c c (la.take j)).2.wr)]⟩), (4, ⟨v1, .bytes (t.adds c c (la.take j)).2.l⟩)]) 0 ⟨Nat.zero_le _, rfl⟩ ?_ ?_ ?_
  ·exact no_implicit_lambda% ten
  ·exact no_implicit_lambda% hen
  ·rintro j v ⟨j1, j2⟩
   have gj := gf.adds c c (la.take j)
   have hjl : (la.take j).length = j := by rw [List.length_take]; omega
   rw [hjl] at gj
   refine glp (k := ?_)
   refine gg (k := ?_)
   refine ⟨fun h' => ?_, fun h' => ?_⟩
   ·have hlt : j < la.length := by have := of_decide_eq_true h'; omega
    have hjr : j < rs.length := by omega
    obtain ⟨y1, y2, y3, y4, y5⟩ := h.el j _ _ (List.getElem?_eq_getElem hjr) (List.getElem?_eq_getElem hlt)
    have hg : rs.getD j ⟨0, 0, 0, false⟩ = rs[j] := by rw [List.getD_eq_getElem?_getD, List.getElem?_eq_getElem hjr]; rfl
    obtain ⟨hkb, hvb⟩ := hb _ (List.getElem_mem hlt)
    have hT : la.take (j + 1) = la.take j ++ [la[j]] := List.take_succ_eq_append_getElem hlt
    have hA := adds_snoc c c la[j] (la.take j) t j2
    rw [← hT] at hA
    have hS := adds_stop c c (la.drop (j + 1)) (la.take (j + 1)) t
    rw [List.take_append_drop] at hS
    generalize la[j] = y at y1 y2 y3 y4 y5 hkb hvb hA
    generalize rs[j] = x at hg y1 y2 y3 y4 y5
    refine gg (k := ?_)
    simp only [Int.toNat_natCast, Nat.zero_add]
    try ((conv => whnf); (refine And.intro ⟨rfl, ⟨rfl, hjr⟩, Nat.le_of_ble_eq_true rfl⟩ ?_))
    rw [hg]
    refine gg (k := ?_)
    refine cmks (add_pl (t.adds c c (la.take j)).2 c c gj (by omega) pb ps y.key y.val x.i (x.i + 1) x.kn x.vn y1 y3 y2 y4 hkb hvb vb v0 v1 vw) Tryz.call116 4 [2, 3, 4, 6] [0, 0, 0, 0] [] ?_
    rw [← hA]
    by_cases hz : (t.adds c c (la.take (j + 1))).1 = 0
    ·refine gg (k := ?_)
     rw [decide_eq_true hz]
     refine gg (k := ?_)
     refine back_at (j + 1) ⟨hlt, hz⟩ (by show la.length - (j + 1) < la.length - j; omega) ?_ ?_
     ·exact no_implicit_lambda% ten
     ·exact no_implicit_lambda% hen
    ·refine gg (k := ?_)
     rw [hS hz, if_neg hz]
     exact ⟨_, rfl, rfl, trivial⟩
   ·obtain rfl : j = la.length := by have := of_decide_eq_false h'; omega
    refine gg (k := ?_)
    refine cmks (ready_vc (t.adds c c (la.take la.length)).2 c c gj (by omega) pb vb v0 v1) Tryz.call117 3 [2, 3, 4] [0, 0, 0] [] ?_
    refine gg (k := ?_)
    rw [List.take_length] at j2 ⊢
    rw [if_pos j2]
    exact ⟨_, rfl, rfl, trivial⟩
 ·rw [if_neg h0]
  have hd0 : decide (f = 0) = false := decide_eq_false h0
  refine gg (k := ?_)
  exact ⟨_, rfl, rfl, trivial⟩
end Go.Proofs.YtmjpbmcbcppkfaaGreatDoor
namespace Go.Proofs.YtmjpbmcbcppkfaaGreatDoor
open Go.RowKit
set_option linter.unusedVariables false
set_option linter.unusedSimpArgs false
set_option maxRecDepth 100000
set_option maxHeartbeats 1500000
theorem sroom_vc {W : Int} {n k : Nat} (s : FlS) (c : Nat) (g : Goes W n k s) (pa : Lies n k 0 c) (vs va vb v0 v1 : Nat) : Spec Tryz.prog 47 [.ref 0 vs 3 0 0] [⟨vs, .obj [.ref 3 v0 6 0 0, .ref 1 va 3 0 0, .ref 2 vb 3 0 0]⟩, ⟨va, .obj [.ref 3 v0 6 0 0, .val (.int .i64 ((0 : Nat) : Int)), .val (.int .i64 (c : Int))]⟩, ⟨vb, .obj [.ref 3 v0 6 0 0, .val (.int .i64 (c : Int)), .val (.int .i64 (c : Int))]⟩, ⟨v0, .obj [.own 4 v1 1 0 s.l.length, .val (.int .i64 (s.k : Int)), .val (.int .i64 s.ar), .val (.int .i64 s.pt), .val (.bool s.dd), .val (.int .i64 s.wr)]⟩, ⟨v1, .bytes s.l⟩] (pms (.val (.int .i64 ((c : Int) * s.k - 16))) [⟨vs, .obj [.ref 3 v0 6 0 0, .ref 1 va 3 0 0, .ref 2 vb 3 0 0]⟩, ⟨va, .obj [.ref 3 v0 6 0 0, .val (.int .i64 ((0 : Nat) : Int)), .val (.int .i64 (c : Int))]⟩, ⟨vb, .obj [.ref 3 v0 6 0 0, .val (.int .i64 (c : Int)), .val (.int .i64 (c : Int))]⟩, ⟨v0, .obj [.own 4 v1 1 0 s.l.length, .val (.int .i64 (s.k : Int)), .val (.int .i64 s.ar), .val (.int .i64 s.pt), .val (.bool s.dd), .val (.int .i64 s.wr)]⟩, ⟨v1, .bytes s.l⟩] []) := by
 refine spec_entry tbOk Tryz.func47 rfl Tryz.ntmps47 Tryz.results47 ?_
 refine gg (k := ?_)
 refine cdet (room_vc s 0 c (g.bok pa) va v0 v1) Tryz.call73 [1, 3, 4] ?_
 refine gg (k := ?_)
 exact ⟨_, rfl, rfl, trivial⟩
theorem head_bnd (s : FlS) (a : Nat) : 0 ≤ (s.head a).1 ∧ (s.head a).1 ≤ 4294967295 := by
 unfold FlS.head
 split
 ·exact ⟨by simp, by simp⟩
 split
 ·have := numB_lt ((((s.l.drop (a * s.k)).take 16).drop 4).take 4)
  have hl : ((((s.l.drop (a * s.k)).take 16).drop 4).take 4).length ≤ 4 := by rw [List.length_take]; omega
  have h2 : 256 ^ ((((s.l.drop (a * s.k)).take 16).drop 4).take 4).length ≤ 256 ^ 4 := Nat.pow_le_pow_right (by decide) hl
  simp only
  omega
 ·exact ⟨by simp, by simp⟩
theorem cnt_bnd (s : FlS) (c : Nat) : 0 ≤ (s.cnt c).2.1 ∧ (s.cnt c).2.1 ≤ 4294967295 := by
 unfold FlS.cnt
 split
 ·exact head_bnd s c
 ·exact head_bnd s 0
theorem copy0 {W : Int} {n k : Nat} (s : FlS) (c : Nat) (g : Goes W n k s) (hW : W ≤ 1000000000000000000) (pa : Lies n k 0 c) (pb : Lies n k c c) (hi : (s.cnt c).1 = 0) {rs : List Rr} {ps : List (List UInt8)} {la : List RK} (h : RRel rs ps la) (hb : ∀ r ∈ la, r.key.length ≤ 140737488355328 ∧ r.val.length ≤ 140737488355328) (hl : la.length ≤ 4194304) (l : List Rc) (e : Int) (b : Bool) (vs va vb v0 v1 vr vw vq N : Nat) (hN : N = rs.length) : Spec Tryz.prog 127 [.ref 0 vs 3 0 0, .agg [.ref 1 va 3 0 0, .own 7 vq 3 0 l.length, .own 5 vr 3 0 N, .val (.int .i64 e), .val (.bool b)]] [⟨vs, .obj [.ref 3 v0 6 0 0, .ref 1 va 3 0 0, .ref 2 vb 3 0 0]⟩, ⟨va, .obj [.ref 3 v0 6 0 0, .val (.int .i64 ((0 : Nat) : Int)), .val (.int .i64 (c : Int))]⟩, ⟨vb, .obj [.ref 3 v0 6 0 0, .val (.int .i64 (c : Int)), .val (.int .i64 (c : Int))]⟩, ⟨v0, .obj [.own 4 v1 1 0 s.l.length, .val (.int .i64 (s.k : Int)), .val (.int .i64 s.ar), .val (.int .i64 s.pt), .val (.bool s.dd), .val (.int .i64 s.wr)]⟩, ⟨v1, .bytes s.l⟩, ⟨vr, .row 3 (rrA 6 vw) ⟨0, 0, 0, false⟩ rs⟩, ⟨vw, .pool ps⟩, ⟨vq, .row 3 (rrA 6 vw) ⟨0, 0, 0, false⟩ (rrOf 0 l)⟩]
   (pms (.val (.int .i64 (s.copy c la).1)) [⟨vs, .obj [.ref 3 v0 6 0 0, .ref 1 va 3 0 0, .ref 2 vb 3 0 0]⟩, ⟨va, .obj [.ref 3 v0 6 0 0, .val (.int .i64 ((0 : Nat) : Int)), .val (.int .i64 (c : Int))]⟩, ⟨vb, .obj [.ref 3 v0 6 0 0, .val (.int .i64 (c : Int)), .val (.int .i64 (c : Int))]⟩, ⟨v0, .obj [.own 4 v1 1 0 (s.copy c la).2.l.length, .val (.int .i64 ((s.copy c la).2.k : Int)), .val (.int .i64 (s.copy c la).2.ar), .val (.int .i64 (s.copy c la).2.pt), .val (.bool (s.copy c la).2.dd), .val (.int .i64 (s.copy c la).2.wr)]⟩, ⟨v1, .bytes (s.copy c la).2.l⟩, ⟨vr, .row 3 (rrA 6 vw) ⟨0, 0, 0, false⟩ rs⟩, ⟨vw, .pool ps⟩, ⟨vq, .row 3 (rrA 6 vw) ⟨0, 0, 0, false⟩ (rrOf 0 l)⟩] []) := by
 have hcv := counts_vc s c g pa pb vs va vb v0 v1
 have hgb := cnt_bnd s c
 have hbg := fun gen hg => begin1 s c g hW pa pb gen hg h hb hl vs va vb v0 v1 vr vw N hN
 unfold FlS.copy
 rw [hi] at hcv ⊢
 rw [show (1 - 0) * c = c by omega]
 generalize (s.cnt c).2.1 = gen at hcv hgb ⊢
 refine spec_entry tbOk Tryz.func127 rfl Tryz.ntmps127 Tryz.results127 ?_
 refine gg (k := ?_)
 refine cmks (hcv) Tryz.call78 5 [0, 1, 2, 3, 4] [0, 0, 0, 0, 0] [] ?_
 by_cases hm' : gen = 4294967295
 ·subst hm'
  rw [if_pos rfl]
  refine gg (k := ?_)
  exact ⟨_, rfl, rfl, trivial⟩
 ·rw [if_neg hm']
  have hd : decide (gen = 4294967295) = false := decide_eq_false hm'
  refine gg (k := ?_)
  (refine sts (k := ?_))
  refine draw_of (p := 8) tbOk hm [0, 0, 0, 4, 2, 18, 62, 126, 0, 256, 0, 1024, 4095, 8191] [⟨0, false, false, []⟩, ⟨1, false, false, []⟩, ⟨2, false, false, []⟩, ⟨3, false, false, []⟩, ⟨4, true, false, [16, 18, 19, 21, 22, 23, 24, 25, 26, 27, 28, 4]⟩, ⟨5, true, false, [16, 18, 19, 22, 23, 24, 25, 26, 27, 28, 4]⟩, ⟨6, true, false, [16, 23, 24, 25, 26, 27, 28, 4]⟩, ⟨7, true, false, [16, 24, 25, 26, 27, 28, 4]⟩, ⟨8, false, false, []⟩, ⟨9, false, false, []⟩, ⟨10, true, false, [16, 17, 18, 19, 20, 21, 22, 23, 24, 25, 27, 28, 4]⟩, ⟨11, true, false, [16, 17, 18, 19, 20, 21, 22, 23, 24, 25, 28, 4]⟩, ⟨12, true, true, [4]⟩, ⟨13, false, false, []⟩] (by kernel_rfl) ?_
  refine gg (k := ?_)
  rw [show (gen + 1) % 4294967296 = gen + 1 by omega]
  refine cmks (hbg (gen + 1) (by omega)) Tryz.call79 (hrows := ⟨⟨⟨(by show 3 < 7; decide), (by show 1 < 7; decide), (by show 2 < 7; decide), trivial⟩, rfl⟩, ⟨⟨(by show 3 < 7; decide), trivial, trivial, trivial⟩, rfl⟩, ⟨⟨(by show 3 < 7; decide), trivial, trivial, trivial⟩, rfl⟩, ⟨⟨(by show 4 < 7; decide), trivial, trivial, trivial, trivial, trivial, trivial⟩, rfl⟩, ⟨trivial, rfl⟩, ⟨fun _ => ⟨(by show 6 < 7; decide), (by show 6 < 7; decide), trivial, trivial⟩, rfl⟩, ⟨trivial, rfl⟩, trivial⟩) (hr2 := ⟨⟨rfl, rfl, rfl, trivial⟩, ⟨rfl, trivial, trivial, trivial⟩, ⟨rfl, trivial, trivial, trivial⟩, ⟨rfl, trivial, trivial, trivial, trivial, trivial, trivial⟩, trivial, fun _ => ⟨rfl, rfl, trivial, trivial⟩, trivial, trivial⟩) 7 [0, 1, 2, 3, 4, 5, 6] [0, 0, 0, 0, 0, 0, 0] [] ?_
  refine gg (k := ?_)
  conv => whnf
  refine And.intro ⟨.inr (fun h => nomatch h), .inr (fun h => nomatch h), .inr (fun h => nomatch h), .inr (fun h => nomatch h), .inr (fun h => nomatch h), .inr (fun h => nomatch h), .inr (fun h => nomatch h), trivial⟩ ?_
  refine gg (k := ?_)
  exact ⟨_, rfl, rfl, trivial⟩
theorem copy1 {W : Int} {n k : Nat} (s : FlS) (c : Nat) (g : Goes W n k s) (hW : W ≤ 1000000000000000000) (pa : Lies n k 0 c) (pb : Lies n k c c) (hi : (s.cnt c).1 = 1) {rs : List Rr} {ps : List (List UInt8)} {la : List RK} (h : RRel rs ps la) (hb : ∀ r ∈ la, r.key.length ≤ 140737488355328 ∧ r.val.length ≤ 140737488355328) (hl : la.length ≤ 4194304) (l : List Rc) (e : Int) (b : Bool) (vs va vb v0 v1 vr vw vq N : Nat) (hN : N = rs.length) : Spec Tryz.prog 127 [.ref 0 vs 3 0 0, .agg [.ref 2 vb 3 0 0, .own 7 vq 3 0 l.length, .own 5 vr 3 0 N, .val (.int .i64 e), .val (.bool b)]] [⟨vs, .obj [.ref 3 v0 6 0 0, .ref 1 va 3 0 0, .ref 2 vb 3 0 0]⟩, ⟨va, .obj [.ref 3 v0 6 0 0, .val (.int .i64 ((0 : Nat) : Int)), .val (.int .i64 (c : Int))]⟩, ⟨vb, .obj [.ref 3 v0 6 0 0, .val (.int .i64 (c : Int)), .val (.int .i64 (c : Int))]⟩, ⟨v0, .obj [.own 4 v1 1 0 s.l.length, .val (.int .i64 (s.k : Int)), .val (.int .i64 s.ar), .val (.int .i64 s.pt), .val (.bool s.dd), .val (.int .i64 s.wr)]⟩, ⟨v1, .bytes s.l⟩, ⟨vr, .row 3 (rrA 6 vw) ⟨0, 0, 0, false⟩ rs⟩, ⟨vw, .pool ps⟩, ⟨vq, .row 3 (rrA 6 vw) ⟨0, 0, 0, false⟩ (rrOf 0 l)⟩]
   (pms (.val (.int .i64 (s.copy c la).1)) [⟨vs, .obj [.ref 3 v0 6 0 0, .ref 1 va 3 0 0, .ref 2 vb 3 0 0]⟩, ⟨va, .obj [.ref 3 v0 6 0 0, .val (.int .i64 ((0 : Nat) : Int)), .val (.int .i64 (c : Int))]⟩, ⟨vb, .obj [.ref 3 v0 6 0 0, .val (.int .i64 (c : Int)), .val (.int .i64 (c : Int))]⟩, ⟨v0, .obj [.own 4 v1 1 0 (s.copy c la).2.l.length, .val (.int .i64 ((s.copy c la).2.k : Int)), .val (.int .i64 (s.copy c la).2.ar), .val (.int .i64 (s.copy c la).2.pt), .val (.bool (s.copy c la).2.dd), .val (.int .i64 (s.copy c la).2.wr)]⟩, ⟨v1, .bytes (s.copy c la).2.l⟩, ⟨vr, .row 3 (rrA 6 vw) ⟨0, 0, 0, false⟩ rs⟩, ⟨vw, .pool ps⟩, ⟨vq, .row 3 (rrA 6 vw) ⟨0, 0, 0, false⟩ (rrOf 0 l)⟩] []) := by
 have hcv := counts_vc s c g pa pb vs va vb v0 v1
 have hgb := cnt_bnd s c
 have hbg := fun gen hg => begin0 s c g hW pa pb gen hg h hb hl vs va vb v0 v1 vr vw N hN
 unfold FlS.copy
 rw [hi] at hcv ⊢
 rw [show (1 - 1) * c = 0 by omega]
 generalize (s.cnt c).2.1 = gen at hcv hgb ⊢
 refine spec_entry tbOk Tryz.func127 rfl Tryz.ntmps127 Tryz.results127 ?_
 refine gg (k := ?_)
 refine cmks (hcv) Tryz.call78 5 [0, 1, 2, 3, 4] [0, 0, 0, 0, 0] [] ?_
 by_cases hm' : gen = 4294967295
 ·subst hm'
  rw [if_pos rfl]
  refine gg (k := ?_)
  exact ⟨_, rfl, rfl, trivial⟩
 ·rw [if_neg hm']
  have hd : decide (gen = 4294967295) = false := decide_eq_false hm'
  refine gg (k := ?_)
  (refine sts (k := ?_))
  refine draw_of (p := 8) tbOk hm [0, 0, 0, 4, 2, 18, 62, 126, 0, 256, 0, 1024, 4095, 8191] [⟨0, false, false, []⟩, ⟨1, false, false, []⟩, ⟨2, false, false, []⟩, ⟨3, false, false, []⟩, ⟨4, true, false, [16, 18, 19, 21, 22, 23, 24, 25, 26, 27, 28, 4]⟩, ⟨5, true, false, [16, 18, 19, 22, 23, 24, 25, 26, 27, 28, 4]⟩, ⟨6, true, false, [16, 23, 24, 25, 26, 27, 28, 4]⟩, ⟨7, true, false, [16, 24, 25, 26, 27, 28, 4]⟩, ⟨8, false, false, []⟩, ⟨9, false, false, []⟩, ⟨10, true, false, [16, 17, 18, 19, 20, 21, 22, 23, 24, 25, 27, 28, 4]⟩, ⟨11, true, false, [16, 17, 18, 19, 20, 21, 22, 23, 24, 25, 28, 4]⟩, ⟨12, true, true, [4]⟩, ⟨13, false, false, []⟩] (by kernel_rfl) ?_
  refine gg (k := ?_)
  rw [show (gen + 1) % 4294967296 = gen + 1 by omega]
  refine cmks (hbg (gen + 1) (by omega)) Tryz.call79 (hrows := ⟨⟨⟨(by show 3 < 7; decide), (by show 1 < 7; decide), (by show 2 < 7; decide), trivial⟩, rfl⟩, ⟨⟨(by show 3 < 7; decide), trivial, trivial, trivial⟩, rfl⟩, ⟨⟨(by show 3 < 7; decide), trivial, trivial, trivial⟩, rfl⟩, ⟨⟨(by show 4 < 7; decide), trivial, trivial, trivial, trivial, trivial, trivial⟩, rfl⟩, ⟨trivial, rfl⟩, ⟨fun _ => ⟨(by show 6 < 7; decide), (by show 6 < 7; decide), trivial, trivial⟩, rfl⟩, ⟨trivial, rfl⟩, trivial⟩) (hr2 := ⟨⟨rfl, rfl, rfl, trivial⟩, ⟨rfl, trivial, trivial, trivial⟩, ⟨rfl, trivial, trivial, trivial⟩, ⟨rfl, trivial, trivial, trivial, trivial, trivial, trivial⟩, trivial, fun _ => ⟨rfl, rfl, trivial, trivial⟩, trivial, trivial⟩) 7 [0, 1, 2, 3, 4, 5, 6] [0, 0, 0, 0, 0, 0, 0] [] ?_
  refine gg (k := ?_)
  conv => whnf
  refine And.intro ⟨.inr (fun h => nomatch h), .inr (fun h => nomatch h), .inr (fun h => nomatch h), .inr (fun h => nomatch h), .inr (fun h => nomatch h), .inr (fun h => nomatch h), .inr (fun h => nomatch h), trivial⟩ ?_
  refine gg (k := ?_)
  exact ⟨_, rfl, rfl, trivial⟩
end Go.Proofs.YtmjpbmcbcppkfaaGreatDoor
namespace Go.Proofs.YtmjpbmcbcppkfaaGreatDoor
open Go.RowKit
set_option linter.unusedVariables false
set_option linter.unusedSimpArgs false
set_option maxRecDepth 100000
set_option maxHeartbeats 1500000
structure TS where
 k : Nat
 s : FlS
theorem tidy0 {W : Int} {n k : Nat} (s : FlS) (c : Nat) (g : Goes W n k s) (hW : W ≤ 1000000000000000000) (pa : Lies n k 0 c) (pb : Lies n k c c) (hd : s.dd = false) (hi : (s.cnt c).1 = 0) (vs va vb v0 v1 : Nat) : Spec Tryz.prog 80 [.ref 0 vs 3 0 0] [⟨vs, .obj [.ref 3 v0 6 0 0, .ref 1 va 3 0 0, .ref 2 vb 3 0 0]⟩, ⟨va, .obj [.ref 3 v0 6 0 0, .val (.int .i64 ((0 : Nat) : Int)), .val (.int .i64 (c : Int))]⟩, ⟨vb, .obj [.ref 3 v0 6 0 0, .val (.int .i64 (c : Int)), .val (.int .i64 (c : Int))]⟩, ⟨v0, .obj [.own 4 v1 1 0 s.l.length, .val (.int .i64 (s.k : Int)), .val (.int .i64 s.ar), .val (.int .i64 s.pt), .val (.bool s.dd), .val (.int .i64 s.wr)]⟩, ⟨v1, .bytes s.l⟩]
   (pms (.val (.int .i64 (s.tidy c).1)) [⟨vs, .obj [.ref 3 v0 6 0 0, .ref 1 va 3 0 0, .ref 2 vb 3 0 0]⟩, ⟨va, .obj [.ref 3 v0 6 0 0, .val (.int .i64 ((0 : Nat) : Int)), .val (.int .i64 (c : Int))]⟩, ⟨vb, .obj [.ref 3 v0 6 0 0, .val (.int .i64 (c : Int)), .val (.int .i64 (c : Int))]⟩, ⟨v0, .obj [.own 4 v1 1 0 (s.tidy c).2.l.length, .val (.int .i64 ((s.tidy c).2.k : Int)), .val (.int .i64 (s.tidy c).2.ar), .val (.int .i64 (s.tidy c).2.pt), .val (.bool (s.tidy c).2.dd), .val (.int .i64 (s.tidy c).2.wr)]⟩, ⟨v1, .bytes (s.tidy c).2.l⟩] []) := by
 have hcv := counts_vc s c g pa pb vs va vb v0 v1
 rw [hi] at hcv
 obtain ⟨l, e, b, hS⟩ : ∃ l e b, s.scan 0 c = (l, e, b) := ⟨_, _, _, rfl⟩
 have hT : s.tidy c = s.tidyL 0 c (l.map rkOf) 0 l.length := by
  unfold FlS.tidy FlS.recK FlS.recs
  rw [hd, hi, if_neg (by simp), show 0 * c = 0 by omega, hS, List.length_map]
 rw [hT]
 have hsc := Scan_live s 0 c g pa hd l.length (by rw [hS]) va v0 v1
 rw [hS] at hsc
 have hbd := look_bound g pa hS
 have hfw := look_few g pa hS
 clear hT hS
 generalize hT0 : s.tidyL 0 c (l.map rkOf) 0 l.length = T0
 refine spec_entry tbOk Tryz.func80 rfl Tryz.ntmps80 Tryz.results80 ?_
 refine gg (k := ?_)
 refine cmks (hcv) Tryz.call78 5 [0, 1, 2, 3, 4] [0, 0, 0, 0, 0] [] ?_
 refine gg (k := ?_)
 refine cmks (hsc) Tryz.call88 (he := ⟨fun _ => ⟨rfl, rfl, trivial, trivial⟩, trivial, trivial⟩) 3 [1, 3, 4, 0, 0, 0, 0, 0, 0, 0, 0, 0, 0, 32, 33] [0, 0, 0, 0, 0, 0, 0, 0, 0, 0, 0, 0, 0, 1, 1] [13, 14] ?_
 refine gg (k := ?_)
 (refine sts (k := ?_))
 conv => whnf
 refine loop_at (fun y : TS => y.k ≤ l.length ∧ y.s.tidyL 0 c (l.map rkOf) y.k (l.length - y.k) = T0 ∧ Goes (W + y.k) n k y.s) (fun y => l.length - y.k) 5 [2, 10, 11, 12, 36, 37, 38, 39, 40, 41, 42, 43, 44, 45, 46, 47, 48, 49, 50, 51, 52, 53, 54, 55, 56, 57, 58, 59, 60, 61, 62] (fun y => [(36, .val (.int .i64 (y.k : Int)))]) (fun y => [(3, ⟨v0, .obj [.own 4 v1 1 0 y.s.l.length, .val (.int .i64 (y.s.k : Int)), .val (.int .i64 y.s.ar), .val (.int .i64 y.s.pt), .val (.bool y.s.dd), .val (.int .i64 y.s.wr)]⟩), (4, ⟨v1, .bytes y.s.l⟩)]) ⟨0, s⟩ ⟨Nat.zero_le _, hT0, by simpa using g⟩ ?_ ?_ ?_
 ·exact no_implicit_lambda% ten
 ·exact no_implicit_lambda% hen
 ·rintro ⟨j, t⟩ v ⟨j1, j2, j3⟩
  simp only at j1 j2 j3
  refine glp (k := ?_)
  refine gg (k := ?_)
  refine ⟨fun h' => ?_, fun h' => ?_⟩
  ·have hlt : j < l.length := by have := of_decide_eq_true h'; omega
   obtain ⟨d, hd'⟩ : ∃ d, l[j]? = some d := ⟨l[j], List.getElem?_eq_getElem hlt⟩
   obtain ⟨p0, p1⟩ := poolOf_get l j d hd'
   have hr : (rrOf 0 l).getD j ⟨0, 0, 0, false⟩ = ⟨2 * j, d.key.length, d.val.length, d.lv⟩ := by rw [List.getD_eq_getElem?_getD, rrOf_get l 0 j d hd', Nat.zero_add]; rfl
   have hrk : (l.map rkOf).getD j rk0 = rkOf d := by rw [List.getD_eq_getElem?_getD, List.getElem?_map, hd']; rfl
   have hrl : (rrOf 0 l).length = l.length := rrOf_len l 0
   rw [show l.length - j = (l.length - (j + 1)) + 1 by omega, FlS.tidyL, hrk] at j2
   refine gg (k := ?_)
   simp only [Int.toNat_natCast, Nat.zero_add]
   try ((conv => whnf); (refine And.intro ⟨rfl, ⟨rfl, by rw [hrl]; exact hlt⟩, Nat.le_of_ble_eq_true rfl⟩ ?_))
   rw [hr]
   obtain ⟨dk, dv, dl, da⟩ := d
   cases dl with
   | false =>
    rw [if_neg (fun q => by cases q.1)] at j2
    refine gg (k := ?_)
    intro _
    refine gg (k := ?_)
    refine back_at ⟨j + 1, t⟩ ⟨hlt, j2, j3.mono (by simp only; omega)⟩ (by show l.length - (j + 1) < l.length - j; omega) ?_ ?_
    ·exact no_implicit_lambda% ten
    ·exact no_implicit_lambda% hen
   | true =>
    refine gg (k := ?_)
    refine cmks (last_own (RRel.of l) hbd p0 l.length dk.length (l.length + 2 + 1) 3 (rrOf_len l 0).symm rfl) Tryz.call55 (hrows := ⟨⟨fun _ => ⟨Nat.lt_succ_self 1, Nat.lt_succ_self 1, trivial, trivial⟩, rfl⟩, ⟨trivial, rfl⟩, trivial⟩) (hr2 := ⟨fun _ => ⟨rfl, rfl, trivial, trivial⟩, trivial, trivial⟩) 2 [32, 33] [0, 0] [] ?_
    by_cases hq : lastK (l.map rkOf) dk = (j : Int)
    ·rw [if_neg (fun q => q.2 hq)] at j2
     refine gg (k := ?_)
     rw [decide_eq_true hq]
     refine gg (k := ?_)
     refine back_at ⟨j + 1, t⟩ ⟨hlt, j2, j3.mono (by simp only; omega)⟩ (by show l.length - (j + 1) < l.length - j; omega) ?_ ?_
     ·exact no_implicit_lambda% ten
     ·exact no_implicit_lambda% hen
    ·rw [if_pos ⟨rfl, hq⟩] at j2
     have hkv := kill_vc t 0 c j3 (by omega) pa (j : Int) (by unfold I64; omega) va v0 v1
     have gk := j3.kill 0 c (j : Int)
     generalize t.kill 0 c (j : Int) = T at j2 hkv gk
     refine gg (k := ?_)
     rw [decide_eq_false hq]
     refine gg (k := ?_)
     refine cmks (hkv) Tryz.call85 3 [1, 3, 4] [0, 0, 0] [] ?_
     by_cases hz : T.1 = 0
     ·rw [if_pos hz] at j2
      refine gg (k := ?_)
      rw [decide_eq_true hz]
      refine gg (k := ?_)
      refine back_at ⟨j + 1, T.2⟩ ⟨hlt, j2, gk.mono (by simp only; omega)⟩ (by show l.length - (j + 1) < l.length - j; omega) ?_ ?_
      ·exact no_implicit_lambda% ten
      ·exact no_implicit_lambda% hen
     ·rw [if_neg hz] at j2
      subst j2
      refine gg (k := ?_)
      exact ⟨_, rfl, rfl, trivial⟩
  ·obtain rfl : j = l.length := by have := of_decide_eq_false h'; omega
   rw [Nat.sub_self, FlS.tidyL] at j2
   subst j2
   refine gg (k := ?_)
   exact ⟨_, rfl, rfl, trivial⟩
theorem tidy1 {W : Int} {n k : Nat} (s : FlS) (c : Nat) (g : Goes W n k s) (hW : W ≤ 1000000000000000000) (pa : Lies n k 0 c) (pb : Lies n k c c) (hd : s.dd = false) (hi : (s.cnt c).1 = 1) (vs va vb v0 v1 : Nat) : Spec Tryz.prog 80 [.ref 0 vs 3 0 0] [⟨vs, .obj [.ref 3 v0 6 0 0, .ref 1 va 3 0 0, .ref 2 vb 3 0 0]⟩, ⟨va, .obj [.ref 3 v0 6 0 0, .val (.int .i64 ((0 : Nat) : Int)), .val (.int .i64 (c : Int))]⟩, ⟨vb, .obj [.ref 3 v0 6 0 0, .val (.int .i64 (c : Int)), .val (.int .i64 (c : Int))]⟩, ⟨v0, .obj [.own 4 v1 1 0 s.l.length, .val (.int .i64 (s.k : Int)), .val (.int .i64 s.ar), .val (.int .i64 s.pt), .val (.bool s.dd), .val (.int .i64 s.wr)]⟩, ⟨v1, .bytes s.l⟩]
   (pms (.val (.int .i64 (s.tidy c).1)) [⟨vs, .obj [.ref 3 v0 6 0 0, .ref 1 va 3 0 0, .ref 2 vb 3 0 0]⟩, ⟨va, .obj [.ref 3 v0 6 0 0, .val (.int .i64 ((0 : Nat) : Int)), .val (.int .i64 (c : Int))]⟩, ⟨vb, .obj [.ref 3 v0 6 0 0, .val (.int .i64 (c : Int)), .val (.int .i64 (c : Int))]⟩, ⟨v0, .obj [.own 4 v1 1 0 (s.tidy c).2.l.length, .val (.int .i64 ((s.tidy c).2.k : Int)), .val (.int .i64 (s.tidy c).2.ar), .val (.int .i64 (s.tidy c).2.pt), .val (.bool (s.tidy c).2.dd), .val (.int .i64 (s.tidy c).2.wr)]⟩, ⟨v1, .bytes (s.tidy c).2.l⟩] []) := by
 have hcv := counts_vc s c g pa pb vs va vb v0 v1
 rw [hi] at hcv
 obtain ⟨l, e, b, hS⟩ : ∃ l e b, s.scan c c = (l, e, b) := ⟨_, _, _, rfl⟩
 have hT : s.tidy c = s.tidyL c c (l.map rkOf) 0 l.length := by
  unfold FlS.tidy FlS.recK FlS.recs
  rw [hd, hi, if_neg (by simp), show 1 * c = c by omega, hS, List.length_map]
 rw [hT]
 have hsc := Scan_live s c c g pb hd l.length (by rw [hS]) vb v0 v1
 rw [hS] at hsc
 have hbd := look_bound g pb hS
 have hfw := look_few g pb hS
 clear hT hS
 generalize hT0 : s.tidyL c c (l.map rkOf) 0 l.length = T0
 refine spec_entry tbOk Tryz.func80 rfl Tryz.ntmps80 Tryz.results80 ?_
 refine gg (k := ?_)
 refine cmks (hcv) Tryz.call78 5 [0, 1, 2, 3, 4] [0, 0, 0, 0, 0] [] ?_
 refine gg (k := ?_)
 refine cmks (hsc) Tryz.call88 (he := ⟨fun _ => ⟨rfl, rfl, trivial, trivial⟩, trivial, trivial⟩) 3 [2, 3, 4, 0, 0, 0, 0, 0, 0, 0, 0, 0, 0, 32, 33] [0, 0, 0, 0, 0, 0, 0, 0, 0, 0, 0, 0, 0, 1, 1] [13, 14] ?_
 refine gg (k := ?_)
 (refine sts (k := ?_))
 conv => whnf
 refine loop_at (fun y : TS => y.k ≤ l.length ∧ y.s.tidyL c c (l.map rkOf) y.k (l.length - y.k) = T0 ∧ Goes (W + y.k) n k y.s) (fun y => l.length - y.k) 5 [2, 10, 11, 12, 36, 37, 38, 39, 40, 41, 42, 43, 44, 45, 46, 47, 48, 49, 50, 51, 52, 53, 54, 55, 56, 57, 58, 59, 60, 61, 62] (fun y => [(36, .val (.int .i64 (y.k : Int)))]) (fun y => [(3, ⟨v0, .obj [.own 4 v1 1 0 y.s.l.length, .val (.int .i64 (y.s.k : Int)), .val (.int .i64 y.s.ar), .val (.int .i64 y.s.pt), .val (.bool y.s.dd), .val (.int .i64 y.s.wr)]⟩), (4, ⟨v1, .bytes y.s.l⟩)]) ⟨0, s⟩ ⟨Nat.zero_le _, hT0, by simpa using g⟩ ?_ ?_ ?_
 ·exact no_implicit_lambda% ten
 ·exact no_implicit_lambda% hen
 ·rintro ⟨j, t⟩ v ⟨j1, j2, j3⟩
  simp only at j1 j2 j3
  refine glp (k := ?_)
  refine gg (k := ?_)
  refine ⟨fun h' => ?_, fun h' => ?_⟩
  ·have hlt : j < l.length := by have := of_decide_eq_true h'; omega
   obtain ⟨d, hd'⟩ : ∃ d, l[j]? = some d := ⟨l[j], List.getElem?_eq_getElem hlt⟩
   obtain ⟨p0, p1⟩ := poolOf_get l j d hd'
   have hr : (rrOf 0 l).getD j ⟨0, 0, 0, false⟩ = ⟨2 * j, d.key.length, d.val.length, d.lv⟩ := by rw [List.getD_eq_getElem?_getD, rrOf_get l 0 j d hd', Nat.zero_add]; rfl
   have hrk : (l.map rkOf).getD j rk0 = rkOf d := by rw [List.getD_eq_getElem?_getD, List.getElem?_map, hd']; rfl
   have hrl : (rrOf 0 l).length = l.length := rrOf_len l 0
   rw [show l.length - j = (l.length - (j + 1)) + 1 by omega, FlS.tidyL, hrk] at j2
   refine gg (k := ?_)
   simp only [Int.toNat_natCast, Nat.zero_add]
   try ((conv => whnf); (refine And.intro ⟨rfl, ⟨rfl, by rw [hrl]; exact hlt⟩, Nat.le_of_ble_eq_true rfl⟩ ?_))
   rw [hr]
   obtain ⟨dk, dv, dl, da⟩ := d
   cases dl with
   | false =>
    rw [if_neg (fun q => by cases q.1)] at j2
    refine gg (k := ?_)
    intro _
    refine gg (k := ?_)
    refine back_at ⟨j + 1, t⟩ ⟨hlt, j2, j3.mono (by simp only; omega)⟩ (by show l.length - (j + 1) < l.length - j; omega) ?_ ?_
    ·exact no_implicit_lambda% ten
    ·exact no_implicit_lambda% hen
   | true =>
    refine gg (k := ?_)
    refine cmks (last_own (RRel.of l) hbd p0 l.length dk.length (l.length + 2 + 1) 3 (rrOf_len l 0).symm rfl) Tryz.call55 (hrows := ⟨⟨fun _ => ⟨Nat.lt_succ_self 1, Nat.lt_succ_self 1, trivial, trivial⟩, rfl⟩, ⟨trivial, rfl⟩, trivial⟩) (hr2 := ⟨fun _ => ⟨rfl, rfl, trivial, trivial⟩, trivial, trivial⟩) 2 [32, 33] [0, 0] [] ?_
    by_cases hq : lastK (l.map rkOf) dk = (j : Int)
    ·rw [if_neg (fun q => q.2 hq)] at j2
     refine gg (k := ?_)
     rw [decide_eq_true hq]
     refine gg (k := ?_)
     refine back_at ⟨j + 1, t⟩ ⟨hlt, j2, j3.mono (by simp only; omega)⟩ (by show l.length - (j + 1) < l.length - j; omega) ?_ ?_
     ·exact no_implicit_lambda% ten
     ·exact no_implicit_lambda% hen
    ·rw [if_pos ⟨rfl, hq⟩] at j2
     have hkv := kill_vc t c c j3 (by omega) pb (j : Int) (by unfold I64; omega) vb v0 v1
     have gk := j3.kill c c (j : Int)
     generalize t.kill c c (j : Int) = T at j2 hkv gk
     refine gg (k := ?_)
     rw [decide_eq_false hq]
     refine gg (k := ?_)
     refine cmks (hkv) Tryz.call85 3 [2, 3, 4] [0, 0, 0] [] ?_
     by_cases hz : T.1 = 0
     ·rw [if_pos hz] at j2
      refine gg (k := ?_)
      rw [decide_eq_true hz]
      refine gg (k := ?_)
      refine back_at ⟨j + 1, T.2⟩ ⟨hlt, j2, gk.mono (by simp only; omega)⟩ (by show l.length - (j + 1) < l.length - j; omega) ?_ ?_
      ·exact no_implicit_lambda% ten
      ·exact no_implicit_lambda% hen
     ·rw [if_neg hz] at j2
      subst j2
      refine gg (k := ?_)
      exact ⟨_, rfl, rfl, trivial⟩
  ·obtain rfl : j = l.length := by have := of_decide_eq_false h'; omega
   rw [Nat.sub_self, FlS.tidyL] at j2
   subst j2
   refine gg (k := ?_)
   exact ⟨_, rfl, rfl, trivial⟩
theorem head_dead {s : FlS} (hd : s.dd = true) (a : Nat) : s.head a = (0, false, 6) := by
 unfold FlS.head
 rw [hd, if_pos rfl]
theorem cnt_dead {s : FlS} (hd : s.dd = true) (c : Nat) : s.cnt c = (0, 0, false) := by
 unfold FlS.cnt
 rw [head_dead hd, head_dead hd]
 rfl
theorem tidy_dead {W : Int} {n k : Nat} (s : FlS) (c : Nat) (g : Goes W n k s) (pa : Lies n k 0 c) (pb : Lies n k c c) (hd : s.dd = true) (vs va vb v0 v1 : Nat) : Spec Tryz.prog 80 [.ref 0 vs 3 0 0] [⟨vs, .obj [.ref 3 v0 6 0 0, .ref 1 va 3 0 0, .ref 2 vb 3 0 0]⟩, ⟨va, .obj [.ref 3 v0 6 0 0, .val (.int .i64 ((0 : Nat) : Int)), .val (.int .i64 (c : Int))]⟩, ⟨vb, .obj [.ref 3 v0 6 0 0, .val (.int .i64 (c : Int)), .val (.int .i64 (c : Int))]⟩, ⟨v0, .obj [.own 4 v1 1 0 s.l.length, .val (.int .i64 (s.k : Int)), .val (.int .i64 s.ar), .val (.int .i64 s.pt), .val (.bool s.dd), .val (.int .i64 s.wr)]⟩, ⟨v1, .bytes s.l⟩]
   (pms (.val (.int .i64 6)) [⟨vs, .obj [.ref 3 v0 6 0 0, .ref 1 va 3 0 0, .ref 2 vb 3 0 0]⟩, ⟨va, .obj [.ref 3 v0 6 0 0, .val (.int .i64 ((0 : Nat) : Int)), .val (.int .i64 (c : Int))]⟩, ⟨vb, .obj [.ref 3 v0 6 0 0, .val (.int .i64 (c : Int)), .val (.int .i64 (c : Int))]⟩, ⟨v0, .obj [.own 4 v1 1 0 s.l.length, .val (.int .i64 (s.k : Int)), .val (.int .i64 s.ar), .val (.int .i64 s.pt), .val (.bool s.dd), .val (.int .i64 s.wr)]⟩, ⟨v1, .bytes s.l⟩] []) := by
 have hcv := counts_vc s c g pa pb vs va vb v0 v1
 rw [cnt_dead hd] at hcv
 refine spec_entry tbOk Tryz.func80 rfl Tryz.ntmps80 Tryz.results80 ?_
 refine gg (k := ?_)
 refine cmks (hcv) Tryz.call78 5 [0, 1, 2, 3, 4] [0, 0, 0, 0, 0] [] ?_
 refine gg (k := ?_)
 refine cmks (Scan_dead s 0 c g pa hd va v0 v1) Tryz.call88 3 [1, 3, 4] [0, 0, 0] [] ?_
 refine gg (k := ?_)
 exact ⟨_, rfl, rfl, trivial⟩
end Go.Proofs.YtmjpbmcbcppkfaaGreatDoor
