/- Walks of nvram: Open. Walks of nvram and lintellaw09: no store; the law NvramNil, once works is walked. Conditions: the premises of each law. -/
import Derived.Test.YtmjpbmcbcppkfaaGreatDoorJHd
namespace Go.Proofs.YtmjpbmcbcppkfaaGreatDoor
open Go.RowKit
set_option linter.unusedVariables false
set_option linter.unusedSimpArgs false
set_option maxRecDepth 100000
set_option maxHeartbeats 1500000
theorem begin_none {W : Int} {n k : Nat} (s : FlS) (c : Nat) (g : Goes W n k s) (hW : W ≤ 1000000000000000000) (pa : Lies n k 0 c) (gen : Int) (hgen : 0 ≤ gen ∧ gen ≤ 4294967295) (vs va vb v0 v1 : Nat) : Spec Tryz.prog 79 [.ref 0 vs 3 0 0, .ref 1 va 3 0 0, .val (.int .u32 gen), .val (.slice none 0 0)] [⟨vs, .obj [.ref 3 v0 6 0 0, .ref 1 va 3 0 0, .ref 2 vb 3 0 0]⟩, ⟨va, .obj [.ref 3 v0 6 0 0, .val (.int .i64 ((0 : Nat) : Int)), .val (.int .i64 (c : Int))]⟩, ⟨vb, .obj [.ref 3 v0 6 0 0, .val (.int .i64 (c : Int)), .val (.int .i64 (c : Int))]⟩, ⟨v0, .obj [.own 4 v1 1 0 s.l.length, .val (.int .i64 (s.k : Int)), .val (.int .i64 s.ar), .val (.int .i64 s.pt), .val (.bool s.dd), .val (.int .i64 s.wr)]⟩, ⟨v1, .bytes s.l⟩]
   (pms (.val (.int .i64 (s.bgn 0 c gen []).1)) [⟨vs, .obj [.ref 3 v0 6 0 0, .ref 1 va 3 0 0, .ref 2 vb 3 0 0]⟩, ⟨va, .obj [.ref 3 v0 6 0 0, .val (.int .i64 ((0 : Nat) : Int)), .val (.int .i64 (c : Int))]⟩, ⟨vb, .obj [.ref 3 v0 6 0 0, .val (.int .i64 (c : Int)), .val (.int .i64 (c : Int))]⟩, ⟨v0, .obj [.own 4 v1 1 0 (s.bgn 0 c gen []).2.l.length, .val (.int .i64 ((s.bgn 0 c gen []).2.k : Int)), .val (.int .i64 (s.bgn 0 c gen []).2.ar), .val (.int .i64 (s.bgn 0 c gen []).2.pt), .val (.bool (s.bgn 0 c gen []).2.dd), .val (.int .i64 (s.bgn 0 c gen []).2.wr)]⟩, ⟨v1, .bytes (s.bgn 0 c gen []).2.l⟩] []) := by
 have hf := format_vc s 0 c g (by omega) pa gen hgen va v0 v1
 have gf := g.format 0 c gen
 have hck : c ≤ 4194304 := pa.ac.2
 refine spec_entry tbOk Tryz.func79 rfl Tryz.ntmps79 Tryz.results79 ?_
 unfold FlS.bgn FlS.adds
 generalize s.format 0 c gen = F at hf gf ⊢
 obtain ⟨f, t⟩ := F
 simp only at hf gf ⊢
 refine gg (k := ?_)
 refine cmks (hf) Tryz.call115 3 [1, 3, 4] [0, 0, 0] [] ?_
 by_cases h0 : f = 0
 ·subst h0
  rw [if_pos rfl]
  (try rw [if_pos rfl])
  refine gg (k := ?_)
  (refine sts (k := ?_))
  conv => whnf
  refine loop_at (fun j : Nat => j = 0) (fun j => j) 5 [8, 11, 12, 21, 22, 23, 24, 25, 26, 27, 28, 29, 30, 31, 32, 33, 34] (fun j => [(21, .val (.int .i64 0))]) (fun j => []) 0 rfl ?_ ?_ ?_
  ·exact no_implicit_lambda% ten
  ·exact no_implicit_lambda% hen
  ·rintro j v rfl
   refine glp (k := ?_)
   refine gg (k := ?_)
   refine cmks (ready_vc t 0 c gf (by omega) pa va v0 v1) Tryz.call117 3 [1, 3, 4] [0, 0, 0] [] ?_
   refine gg (k := ?_)
   exact ⟨_, rfl, rfl, trivial⟩
 ·rw [if_neg h0]
  refine gg (k := ?_)
  exact ⟨_, rfl, rfl, trivial⟩
theorem cnt01o (s : FlS) (c : Nat) : (s.cnt c).1 = 0 ∨ (s.cnt c).1 = 1 := by
 unfold FlS.cnt
 split
 ·exact .inr rfl
 ·exact .inl rfl
theorem tidy_vc {W : Int} {n k : Nat} (s : FlS) (c : Nat) (g : Goes W n k s) (hW : W ≤ 1000000000000000000) (pa : Lies n k 0 c) (pb : Lies n k c c) (vs va vb v0 v1 : Nat) : Spec Tryz.prog 80 [.ref 0 vs 3 0 0] [⟨vs, .obj [.ref 3 v0 6 0 0, .ref 1 va 3 0 0, .ref 2 vb 3 0 0]⟩, ⟨va, .obj [.ref 3 v0 6 0 0, .val (.int .i64 ((0 : Nat) : Int)), .val (.int .i64 (c : Int))]⟩, ⟨vb, .obj [.ref 3 v0 6 0 0, .val (.int .i64 (c : Int)), .val (.int .i64 (c : Int))]⟩, ⟨v0, .obj [.own 4 v1 1 0 s.l.length, .val (.int .i64 (s.k : Int)), .val (.int .i64 s.ar), .val (.int .i64 s.pt), .val (.bool s.dd), .val (.int .i64 s.wr)]⟩, ⟨v1, .bytes s.l⟩]
   (pms (.val (.int .i64 (s.tidy c).1)) [⟨vs, .obj [.ref 3 v0 6 0 0, .ref 1 va 3 0 0, .ref 2 vb 3 0 0]⟩, ⟨va, .obj [.ref 3 v0 6 0 0, .val (.int .i64 ((0 : Nat) : Int)), .val (.int .i64 (c : Int))]⟩, ⟨vb, .obj [.ref 3 v0 6 0 0, .val (.int .i64 (c : Int)), .val (.int .i64 (c : Int))]⟩, ⟨v0, .obj [.own 4 v1 1 0 (s.tidy c).2.l.length, .val (.int .i64 ((s.tidy c).2.k : Int)), .val (.int .i64 (s.tidy c).2.ar), .val (.int .i64 (s.tidy c).2.pt), .val (.bool (s.tidy c).2.dd), .val (.int .i64 (s.tidy c).2.wr)]⟩, ⟨v1, .bytes (s.tidy c).2.l⟩] []) := by
 rcases Bool.eq_false_or_eq_true s.dd with hd | hd
 ·have h : s.tidy c = (6, s) := by unfold FlS.tidy; rw [if_pos hd]
  rw [h]
  exact tidy_dead s c g pa pb hd vs va vb v0 v1
 ·rcases cnt01o s c with hi | hi
  ·exact tidy0 s c g hW pa pb hd hi vs va vb v0 v1
  ·exact tidy1 s c g hW pa pb hd hi vs va vb v0 v1
theorem opn_eq {s : FlS} (hd : s.dd = false) (c : Nat) : s.opn c = if (s.cnt c).2.2 = false then (if (s.bgn 0 c 1 []).1 = 0 then (s.bgn 0 c 1 []).2.tidy c else s.bgn 0 c 1 []) else s.tidy c := by
 unfold FlS.opn
 rw [if_neg (by rw [hd]; simp)]
theorem Goes.bgn0 {B : Int} {n k : Nat} {s : FlS} (g : Goes B n k s) (c : Nat) (gen : Int) : Goes (B + c + 13) n k (s.bgn 0 c gen []).2 := by
 unfold FlS.bgn FlS.adds
 have gf := g.format 0 c gen
 split
 ·simp only [if_true]
  exact (gf.prog _ _).mono (by simp only [List.length_singleton]; omega)
 ·exact gf.mono (by omega)
theorem open_vc {W : Int} {n k : Nat} (s : FlS) (c : Nat) (g : Goes W n k s) (hW : W ≤ 1000000000000000) (pa : Lies n k 0 c) (pb : Lies n k c c) (hn : n = 2 * c * k) (hd : s.dd = false) (v0 v1 : Nat) : Spec Tryz.prog 48 [.ref 0 v0 6 0 0] [⟨v0, .obj [.own 1 v1 1 0 s.l.length, .val (.int .i64 (s.k : Int)), .val (.int .i64 s.ar), .val (.int .i64 s.pt), .val (.bool s.dd), .val (.int .i64 s.wr)]⟩, ⟨v1, .bytes s.l⟩]
   (fun X H => ((s.opn c).1 = 0 → pms (.tup [.ref 39 1 3 0 0, .val (.int .i64 0)]) [⟨v0, .obj [.own 1 v1 1 0 (s.opn c).2.l.length, .val (.int .i64 ((s.opn c).2.k : Int)), .val (.int .i64 (s.opn c).2.ar), .val (.int .i64 (s.opn c).2.pt), .val (.bool (s.opn c).2.dd), .val (.int .i64 (s.opn c).2.wr)]⟩, ⟨v1, .bytes (s.opn c).2.l⟩] [(39, ⟨1, .obj [.ref 0 v0 6 0 0, .ref 80 2 3 0 0, .ref 81 2 3 0 0]⟩), (80, ⟨2, .obj [.ref 0 v0 6 0 0, .val (.int .i64 ((0 : Nat) : Int)), .val (.int .i64 (c : Int))]⟩), (81, ⟨2, .obj [.ref 0 v0 6 0 0, .val (.int .i64 (c : Int)), .val (.int .i64 (c : Int))]⟩)] X H) ∧
    ((s.opn c).1 ≠ 0 → pms (.tup [.val (.pointer none), .val (.int .i64 (s.opn c).1)]) [⟨v0, .obj [.own 1 v1 1 0 (s.opn c).2.l.length, .val (.int .i64 ((s.opn c).2.k : Int)), .val (.int .i64 (s.opn c).2.ar), .val (.int .i64 (s.opn c).2.pt), .val (.bool (s.opn c).2.dd), .val (.int .i64 (s.opn c).2.wr)]⟩, ⟨v1, .bytes (s.opn c).2.l⟩] [] X H)) := by
 have hkk := g.kk
 have hgl := g.l
 have hkn := g.k
 have hlen := g.len
 have hsec : (s.l.length : Int) / (s.k : Int) = 2 * (c : Int) := by
  rw [hgl, hkn, hn, Nat.mul_assoc, Nat.mul_comm c k, ← Nat.mul_assoc, Nat.mul_comm 2 k, Nat.mul_assoc]
  rw [Int.natCast_mul, Int.mul_ediv_cancel_left _ (by omega)]
  omega
 have hnk : (n : Int) / (k : Int) = 2 * (c : Int) := by rw [← hsec, hgl, hkn]
 have hss := spec_sectors s (by omega) ⟨by omega, by omega⟩ v0 v1
 rw [hsec] at hss
 have hbig := pa.big
 have hck : c ≤ 4194304 := pa.ac.2
 have hcs : (c : Int) * (s.k : Int) = ((c * k : Nat) : Int) := by rw [hkn]; simp
 have hfit := pa.fit
 refine spec_entry tbOk Tryz.func48 rfl Tryz.ntmps48 Tryz.results48 ?_
 refine gg (k := ?_)
 refine cdet (hss) Tryz.call74 [0, 1] ?_
 refine gg (k := ?_)
 rw [show (2 * (c : Int)) / 2 = (c : Int) by omega]
 refine cdet (hss) Tryz.call74 [0, 1] ?_
 refine gg (k := ?_)
 rw [show (2 * (c : Int)) % 2 = 0 by omega]
 refine gg (k := ?_)
 refine gcl (k := ?_)
 refine cdet (spec_size s v0 v1) Tryz.call75 [0, 1] ?_
 refine gg (k := ?_)
 rw [decide_eq_false (by omega : ¬ (c : Int) * (s.k : Int) < 64)]
 refine ⟨fun h => absurd h (by simp), fun _ => ?_⟩
 refine gg (k := ?_)
 refine cdet (spec_dead_b s false hd v0 v1) Tryz.call76 [0, 1] ?_
 refine gg (k := ?_)
 (refine sts (k := ?_))
 conv => whnf
 refine loop_at (fun i : Nat => i ≤ 2) (fun i => 2 - i) 2 [2, 3, 6, 7, 8, 38, 39, 40, 41, 42, 43, 44, 45, 46, 47, 48, 49, 50, 51, 52, 53, 54, 55, 56, 57, 58, 59] (fun i => [(38, .val (.int .i64 (i : Int)))]) (fun i => [(39, ⟨1, .obj [.ref 0 v0 6 0 0, (if i = 0 then .val (.pointer none) else .ref 80 2 3 0 0), (if i = 2 then .ref 81 2 3 0 0 else .val (.pointer none))]⟩), (80, if i = 0 then ⟨0, .dead⟩ else ⟨2, .obj [.ref 0 v0 6 0 0, .val (.int .i64 ((0 : Nat) : Int)), .val (.int .i64 (c : Int))]⟩), (81, if i = 2 then ⟨2, .obj [.ref 0 v0 6 0 0, .val (.int .i64 (c : Int)), .val (.int .i64 (c : Int))]⟩ else ⟨0, .dead⟩)]) 0 (by decide) ?_ ?_ ?_
 ·exact no_implicit_lambda% ten
 ·exact no_implicit_lambda% hen
 ·rintro i v i1
  refine glp (k := ?_)
  refine gg (k := ?_)
  refine ⟨fun h => ?_, fun h => ?_⟩
  ·obtain rfl | rfl : i = 0 ∨ i = 1 := by have := of_decide_eq_true h; omega
   ·refine gg (k := ?_)
    rw [show ((0 : Nat) : Int) * (c : Int) = ((0 : Nat) : Int) by simp]
    refine cmks (at_vc s 0 c g pa (by rw [hnk]; omega) v0 v1) Tryz.call77 (had := ⟨⟨_, rfl, (by show (0 : Nat) < 1; decide)⟩, trivial⟩) 2 [0, 1, 0, 0, 0, 0, 0, 0, 0, 0, 0, 0, 0, 0, 0, 0, 0, 0, 0, 0, 0, 0, 0, 0, 0, 0, 0, 0, 0, 0, 0, 0, 0, 0, 0, 0, 0, 0, 0, 0, 0, 0, 0, 0, 0, 80] [0, 0, 0, 0, 0, 0, 0, 0, 0, 0, 0, 0, 0, 0, 0, 0, 0, 0, 0, 0, 0, 0, 0, 0, 0, 0, 0, 0, 0, 0, 0, 0, 0, 0, 0, 0, 0, 0, 0, 0, 0, 0, 0, 0, 0, 1] [45] ?_
    refine gg (k := ?_)
    refine back_at 1 (by decide) (by show 2 - 1 < 2 - 0; decide) ?_ ?_
    ·exact no_implicit_lambda% ten
    ·exact no_implicit_lambda% hen
   ·refine gg (k := ?_)
    rw [show ((1 : Nat) : Int) * (c : Int) = (c : Int) by simp]
    refine cmks (at_vc s c c g pb (by rw [hnk]; omega) v0 v1) Tryz.call77 (had := ⟨⟨_, rfl, (by show (0 : Nat) < 1; decide)⟩, trivial⟩) 2 [0, 1, 0, 0, 0, 0, 0, 0, 0, 0, 0, 0, 0, 0, 0, 0, 0, 0, 0, 0, 0, 0, 0, 0, 0, 0, 0, 0, 0, 0, 0, 0, 0, 0, 0, 0, 0, 0, 0, 0, 0, 0, 0, 0, 0, 81] [0, 0, 0, 0, 0, 0, 0, 0, 0, 0, 0, 0, 0, 0, 0, 0, 0, 0, 0, 0, 0, 0, 0, 0, 0, 0, 0, 0, 0, 0, 0, 0, 0, 0, 0, 0, 0, 0, 0, 0, 0, 0, 0, 0, 0, 1] [45] ?_
    refine gg (k := ?_)
    refine back_at 2 (by decide) (by show 2 - 2 < 2 - 1; decide) ?_ ?_
    ·exact no_implicit_lambda% ten
    ·exact no_implicit_lambda% hen
  ·obtain rfl : i = 2 := by have := of_decide_eq_false h; omega
   have hcv := counts_vc s c g pa pb 1 2 2 v0 v1
   have hbn := begin_none s c g (by omega) pa 1 (by decide) 1 2 2 v0 v1
   have gb := g.bgn0 c 1
   have hto := tidy_vc s c g (by omega) pa pb 1 2 2 v0 v1
   have htb := tidy_vc _ c gb (by omega) pa pb 1 2 2 v0 v1
   have hO := opn_eq hd c
   refine gg (k := ?_)
   cases hr : (s.cnt c).2.2 with
   | true =>
    rw [hr] at hcv
    rw [hr, if_neg (by simp)] at hO
    rw [hO]
    generalize s.tidy c = T at hto ⊢
    refine cmks (hcv) Tryz.call78 5 [39, 80, 81, 0, 1] [0, 0, 0, 0, 0] [] ?_
    refine gg (k := ?_)
    refine cmks (hto) Tryz.call80 5 [39, 80, 81, 0, 1] [0, 0, 0, 0, 0] [] ?_
    (
 by_cases hT : T.1 = 0
 ·refine gg (k := ?_)
  (try rw [decide_eq_true hT])
  refine gg (k := ?_)
  exact ⟨fun _ => ⟨_, rfl, rfl, rfl, rfl, rfl, trivial⟩, fun h => absurd hT h⟩
 ·refine gg (k := ?_)
  exact fun _ => ⟨_, rfl, rfl, trivial⟩)
   | false =>
    rw [hr] at hcv
    rw [hr, if_pos rfl] at hO
    rw [hO]
    clear hO
    generalize s.bgn 0 c 1 [] = B at hbn gb htb ⊢
    refine cmks (hcv) Tryz.call78 5 [39, 80, 81, 0, 1] [0, 0, 0, 0, 0] [] ?_
    refine gg (k := ?_)
    refine cmks (hbn) Tryz.call79 5 [39, 80, 81, 0, 1] [0, 0, 0, 0, 0] [] ?_
    by_cases hB : B.1 = 0
    ·rw [if_pos hB]
     generalize B.2.tidy c = T at htb ⊢
     refine gg (k := ?_)
     rw [decide_eq_true hB]
     refine gg (k := ?_)
     refine cmks (htb) Tryz.call80 5 [39, 80, 81, 0, 1] [0, 0, 0, 0, 0] [] ?_
     (
 by_cases hT : T.1 = 0
 ·refine gg (k := ?_)
  (try rw [decide_eq_true hT])
  refine gg (k := ?_)
  exact ⟨fun _ => ⟨_, rfl, rfl, rfl, rfl, rfl, trivial⟩, fun h => absurd hT h⟩
 ·refine gg (k := ?_)
  exact fun _ => ⟨_, rfl, rfl, trivial⟩)
    ·rw [if_neg hB]
     refine gg (k := ?_)
     exact fun _ => ⟨_, rfl, rfl, trivial⟩
end Go.Proofs.YtmjpbmcbcppkfaaGreatDoor
namespace Go.Proofs.YtmjpbmcbcppkfaaGreatDoor
open Go.RowKit
set_option linter.unusedVariables false
set_option linter.unusedSimpArgs false
set_option maxRecDepth 100000
set_option maxHeartbeats 1500000
theorem open_nil : Spec Tryz.prog 48 [.val (.pointer none)] [] (pms (.tup [.val (.pointer none), .val (.int .i64 2)]) [] []) := by
 refine spec_entry tbOk Tryz.func48 rfl Tryz.ntmps48 Tryz.results48 ?_
 refine gg (k := ?_)
 refine cmks (nil_sectors) Tryz.call74 0 [] [] [] ?_
 refine gg (k := ?_)
 exact ⟨_, rfl, rfl, trivial⟩
end Go.Proofs.YtmjpbmcbcppkfaaGreatDoor
