/- Walks of nvram: Set. Walks of nvram: Set. Conditions: the premises of each law. -/
import Derived.Test.YtmjpbmcbcppkfaaGreatDoorJHd
namespace Go.Proofs.YtmjpbmcbcppkfaaGreatDoor
open Go.RowKit
set_option linter.unusedVariables false
set_option linter.unusedSimpArgs false
set_option maxRecDepth 100000
set_option maxHeartbeats 1500000
theorem Goes.bgn {B : Int} {n k : Nat} {s : FlS} (g : Goes B n k s) (a c : Nat) (gen : Int) (la : List RK) : Goes (B + c + 13 + la.length * 65804) n k (s.bgn a c gen la).2 := by
 unfold FlS.bgn
 have gf := g.format a c gen
 split
 ·have ga := gf.adds a c la
  split
  ·exact (ga.prog _ _).mono (by simp only [List.length_singleton]; omega)
  ·exact ga.mono (by omega)
 ·exact gf.mono (by omega)
theorem Goes.copy {B : Int} {n k : Nat} {s : FlS} (g : Goes B n k s) (c : Nat) (la : List RK) : Goes (B + c + 13 + la.length * 65804) n k (s.copy c la).2 := by
 unfold FlS.copy
 split
 ·exact g.mono (by omega)
 ·exact g.bgn _ _ _ _
theorem last_i64 (l : List RK) (key : List UInt8) (h : l.length ≤ 140737488355328) : I64 (lastK l key) := by
 have := lastI_lt l key l.length
 unfold lastK I64
 omega
theorem bank_len' {W : Int} {n k : Nat} {s : FlS} {a c : Nat} (g : Goes W n k s) (p : Lies n k a c) : (s.bank a c).length = c * k := by
 have := p.fit
 unfold FlS.bank
 rw [List.length_take, List.length_drop, g.l, g.k]; omega
theorem cnt01 (s : FlS) (c : Nat) : (s.cnt c).1 = 0 ∨ (s.cnt c).1 = 1 := by
 unfold FlS.cnt
 split
 ·exact .inr rfl
 ·exact .inl rfl
theorem put_eq {s : FlS} {c i a : Nat} (hi : (s.cnt c).1 = i) (ha : i * c = a) {l : List Rc} {e : Nat} {b : Bool} (hS : s.scan a c = (l, e, b)) (key val : List UInt8) : s.put c key val = if (s.add a c key val).1 = 0 then (if 0 ≤ lastK (l.map rkOf) key then (s.add a c key val).2.kill a c (lastK (l.map rkOf) key) else (0, (s.add a c key val).2)) else s.add a c key val := by
 unfold FlS.put FlS.recK FlS.recs
 rw [hi, ha, hS]
theorem set0 {W : Int} {n k : Nat} (s : FlS) (c : Nat) (g : Goes W n k s) (hW : W ≤ 1000000000000000) (pa : Lies n k 0 c) (pb : Lies n k c c) (hd : s.dd = false) (hi : (s.cnt c).1 = 0) (z z' : Nat) (key val : List UInt8) (hkl : key.length ≤ 140737488355328) (hvl : val.length ≤ 140737488355328) (vs va vb v0 v1 : Nat) : Spec Tryz.prog 97 [.ref 0 vs 3 0 0, .bs z key, .bs z' val] [⟨vs, .obj [.ref 3 v0 6 0 0, .ref 1 va 3 0 0, .ref 2 vb 3 0 0]⟩, ⟨va, .obj [.ref 3 v0 6 0 0, .val (.int .i64 ((0 : Nat) : Int)), .val (.int .i64 (c : Int))]⟩, ⟨vb, .obj [.ref 3 v0 6 0 0, .val (.int .i64 (c : Int)), .val (.int .i64 (c : Int))]⟩, ⟨v0, .obj [.own 4 v1 1 0 s.l.length, .val (.int .i64 (s.k : Int)), .val (.int .i64 s.ar), .val (.int .i64 s.pt), .val (.bool s.dd), .val (.int .i64 s.wr)]⟩, ⟨v1, .bytes s.l⟩]
   (pms (.val (.int .i64 (s.set c key val).1)) [⟨vs, .obj [.ref 3 v0 6 0 0, .ref 1 va 3 0 0, .ref 2 vb 3 0 0]⟩, ⟨va, .obj [.ref 3 v0 6 0 0, .val (.int .i64 ((0 : Nat) : Int)), .val (.int .i64 (c : Int))]⟩, ⟨vb, .obj [.ref 3 v0 6 0 0, .val (.int .i64 (c : Int)), .val (.int .i64 (c : Int))]⟩, ⟨v0, .obj [.own 4 v1 1 0 (s.set c key val).2.l.length, .val (.int .i64 ((s.set c key val).2.k : Int)), .val (.int .i64 (s.set c key val).2.ar), .val (.int .i64 (s.set c key val).2.pt), .val (.bool (s.set c key val).2.dd), .val (.int .i64 (s.set c key val).2.wr)]⟩, ⟨v1, .bytes (s.set c key val).2.l⟩] []) := by
 obtain ⟨l, e, b, hS⟩ : ∃ l e b, s.scan 0 c = (l, e, b) := ⟨_, _, _, rfl⟩
 have hrc : s.recs c = (l, e, b) := by unfold FlS.recs; rw [hi, show 0 * c = 0 by omega, hS]
 have hrk : s.recK c = l.map rkOf := by unfold FlS.recK; rw [hrc]
 have hbd := look_bound g pa hS
 have hfw := look_few g pa hS
 have hus := look_used g pa hS
 have hnw := now0 s c g pa pb hd hi l e b hS vs va vb v0 v1
 have hkn := g.k
 have hck : c ≤ 4194304 := pa.ac.2
 have hkk := g.kk
 have hfit := pa.fit
 have hglen := g.len
 have hel : e ≤ c * k := by
  have h1 := (scanG_le (s.bank 0 c) _ 16 rfl).2 (by rw [bank_len' g pa]; have := pa.big; omega)
  rw [show scanG (s.bank 0 c) 16 = (l, e, b) from hS, bank_len' g pa] at h1
  exact h1
 refine spec_entry tbOk Tryz.func97 rfl Tryz.ntmps97 Tryz.results97 ?_
 have hset : s.set c key val = if key.length < 1 ∨ 255 < key.length ∨ 65536 < val.length then (1, s) else if (c : Int) * s.k - 16 < usedK (keptK (l.map rkOf)) + (12 + key.length + val.length) then (5, s) else if b = false ∨ (c : Int) * s.k - 16 + 16 - (e : Int) < 12 + key.length + val.length then (if (s.copy c (keptK (l.map rkOf))).1 = 0 then (if (s.copy c (keptK (l.map rkOf))).2.dd = true then (6, (s.copy c (keptK (l.map rkOf))).2) else (s.copy c (keptK (l.map rkOf))).2.put c key val) else s.copy c (keptK (l.map rkOf))) else s.put c key val := by
  unfold FlS.set
  rw [hd, hrc, hrk]
  simp only [Bool.false_eq_true, if_false]
 rw [hset]
 clear hset
 by_cases hbad : key.length < 1 ∨ 255 < key.length ∨ 65536 < val.length
 ·rw [if_pos hbad]
  refine gg (k := ?_)
  exact ⟨_, rfl, rfl, trivial⟩
 rw [if_neg hbad]
 refine gg (k := ?_)
 refine cmks (hnw) Tryz.call54 (he := ⟨fun _ => ⟨rfl, rfl, trivial, trivial⟩, trivial, fun _ => ⟨rfl, rfl, trivial, trivial⟩, trivial⟩) 5 [0, 1, 2, 3, 4, 0, 0, 0, 0, 0, 0, 0, 0, 0, 0, 0, 0, 0, 0, 0, 0, 0, 0, 0, 0, 0, 0, 0, 0, 0, 40, 41, 42] [0, 0, 0, 0, 0, 0, 0, 0, 0, 0, 0, 0, 0, 0, 0, 0, 0, 0, 0, 0, 0, 0, 0, 0, 0, 0, 0, 0, 0, 0, 1, 1, 1] [30, 31, 32] ?_
 refine gg (k := ?_)
 refine cdet (need_vc (key.length : Int) (val.length : Int) (by omega) (by omega)) Tryz.call112 [] ?_
 refine gg (k := ?_)
 refine cmks (used_vc (RRel.kept l) (by omega) (by have := (keptK_sub (l.map rkOf)).length_le; rw [List.length_map] at this; omega) s 0 c l (e : Int) b (keptR l l.length).length 4 4 (l.length + 4) va v0 v1 rfl) Tryz.call72 (hrows := ⟨⟨fun _ => ⟨(by show 1 < 6; decide), (by show 1 < 6; decide), trivial, trivial⟩, rfl⟩, ⟨trivial, rfl⟩, ⟨fun _ => ⟨(by show 1 < 6; decide), (by show 1 < 6; decide), trivial, trivial⟩, rfl⟩, ⟨⟨(by show 4 < 6; decide), trivial, trivial, trivial⟩, rfl⟩, ⟨⟨(by show 5 < 6; decide), trivial, trivial, trivial, trivial, trivial, trivial⟩, rfl⟩, ⟨trivial, rfl⟩, trivial⟩) (hr2 := ⟨fun _ => ⟨rfl, rfl, trivial, trivial⟩, trivial, fun _ => ⟨rfl, rfl, trivial, trivial⟩, ⟨rfl, trivial, trivial, trivial⟩, ⟨rfl, trivial, trivial, trivial, trivial, trivial, trivial⟩, trivial, trivial⟩) 6 [42, 41, 40, 1, 3, 4] [0, 0, 0, 0, 0, 0] [] ?_
 refine gg (k := ?_)
 refine cmks (sroom_vc s c g pa vs va vb v0 v1) Tryz.call47 5 [0, 1, 2, 3, 4] [0, 0, 0, 0, 0] [] ?_
 by_cases hfull : (c : Int) * s.k - 16 < usedK (keptK (l.map rkOf)) + (12 + key.length + val.length)
 ·rw [if_pos hfull]
  refine gg (k := ?_)
  exact ⟨_, rfl, rfl, trivial⟩
 rw [if_neg hfull]
 refine gg (k := ?_)
 (refine sts (k := ?_))
 refine draw_of (p := 5) tbOk hm [0, 1, 3, 7, 15, 15, 47, 111, 15, 271, 1007, 2047, 4095] [⟨0, true, false, [49, 50, 51, 52, 53, 54, 55, 56, 57, 58, 59, 60]⟩, ⟨1, true, false, [50, 51, 52, 53, 54, 55, 56, 57, 58, 59, 60]⟩, ⟨2, false, false, []⟩, ⟨3, false, false, []⟩, ⟨4, false, false, []⟩, ⟨5, false, false, []⟩, ⟨8, true, false, [52, 53, 54, 55, 57, 58, 59, 60]⟩, ⟨9, true, false, [52, 53, 54, 55, 58, 59, 60]⟩, ⟨6, true, false, [52, 55, 56, 57, 58, 59, 60]⟩, ⟨7, false, false, []⟩, ⟨10, false, false, []⟩, ⟨11, false, false, []⟩, ⟨12, false, false, []⟩] (by kernel_rfl) ?_
 cases b with
 | false =>
  rw [if_pos (.inl rfl)]
  refine gg (k := ?_)
  intro _
  refine gg (k := ?_)
  (
 have hcp := copy0 s c g (by omega) pa pb hi (RRel.kept l) (fun r hr => hbd.1 r ((keptK_sub (l.map rkOf)).subset hr)) (by have := (keptK_sub (l.map rkOf)).length_le; rw [List.length_map] at this; omega) l (e : Int) false vs va vb v0 v1 4 4 (l.length + 4) (keptR l l.length).length rfl
 have gc := g.copy c (keptK (l.map rkOf))
 have hkl2 := (keptK_sub (l.map rkOf)).length_le
 rw [List.length_map] at hkl2
 generalize s.copy c (keptK (l.map rkOf)) = T at hcp gc ⊢
 refine cmks (hcp) Tryz.call127 (hrows := ⟨⟨⟨(by show 3 < 8; decide), (by show 1 < 8; decide), (by show 2 < 8; decide), trivial⟩, rfl⟩, ⟨⟨(by show 3 < 8; decide), trivial, trivial, trivial⟩, rfl⟩, ⟨⟨(by show 3 < 8; decide), trivial, trivial, trivial⟩, rfl⟩, ⟨⟨(by show 4 < 8; decide), trivial, trivial, trivial, trivial, trivial, trivial⟩, rfl⟩, ⟨trivial, rfl⟩, ⟨fun _ => ⟨(by show 6 < 8; decide), (by show 6 < 8; decide), trivial, trivial⟩, rfl⟩, ⟨trivial, rfl⟩, ⟨fun _ => ⟨(by show 6 < 8; decide), (by show 6 < 8; decide), trivial, trivial⟩, rfl⟩, trivial⟩) (hr2 := ⟨⟨rfl, rfl, rfl, trivial⟩, ⟨rfl, trivial, trivial, trivial⟩, ⟨rfl, trivial, trivial, trivial⟩, ⟨rfl, trivial, trivial, trivial, trivial, trivial, trivial⟩, trivial, fun _ => ⟨rfl, rfl, trivial, trivial⟩, trivial, fun _ => ⟨rfl, rfl, trivial, trivial⟩, trivial⟩) 8 [0, 1, 2, 3, 4, 42, 41, 40] [0, 0, 0, 0, 0, 0, 0, 0] [] ?_
 by_cases hT : T.1 = 0
 ·rw [if_pos hT]
  refine gg (k := ?_)
  rw [decide_eq_true hT]
  refine gg (k := ?_)
  rcases Bool.eq_false_or_eq_true T.2.dd with hdd | hdd
  ·rw [if_pos hdd]
   refine cmks (now_dead T.2 c hdd vs va vb v0 v1) Tryz.call54 5 [0, 1, 2, 3, 4] [0, 0, 0, 0, 0] [] ?_
   refine gg (k := ?_)
   exact ⟨_, rfl, rfl, trivial⟩
  ·rw [if_neg (by rw [hdd]; simp)]
   rcases cnt01 T.2 c with hi2 | hi2
   ·obtain ⟨l2, e2, b2, hS2⟩ : ∃ l e b, T.2.scan 0 c = (l, e, b) := ⟨_, _, _, rfl⟩
    rw [put_eq hi2 (Nat.zero_mul c) hS2]
    have hbd2 := look_bound gc pa hS2
    refine cmks (now0 T.2 c gc pa pb hdd hi2 l2 e2 b2 hS2 vs va vb v0 v1) Tryz.call54 (he := ⟨fun _ => ⟨rfl, rfl, trivial, trivial⟩, trivial, fun _ => ⟨rfl, rfl, trivial, trivial⟩, trivial⟩) 5 [0, 1, 2, 3, 4, 0, 0, 0, 0, 0, 0, 0, 0, 0, 0, 0, 0, 0, 0, 0, 0, 0, 0, 0, 0, 0, 0, 0, 0, 0, 43, 44, 45] [0, 0, 0, 0, 0, 0, 0, 0, 0, 0, 0, 0, 0, 0, 0, 0, 0, 0, 0, 0, 0, 0, 0, 0, 0, 0, 0, 0, 0, 0, 1, 1, 1] [30, 31, 32] ?_
    refine gg (k := ?_)
    (
 have hadd := add_vc T.2 0 c gc (by omega) pa key val hkl hvl z z' va v0 v1
 have gad := Goes.add gc 0 c key val
 generalize FlS.add T.2 0 c key val = A at hadd gad ⊢
 refine cmks (hadd) Tryz.call116 3 [1, 3, 4] [0, 0, 0] [] ?_
 by_cases hA : A.1 = 0
 ·rw [if_pos hA]
  refine gg (k := ?_)
  rw [decide_eq_true hA]
  refine gg (k := ?_)
  refine cmks (last_bs (RRel.of l2) hbd2 z key l2.length (l2.length + 4) 4 (rrOf_len l2 0).symm) Tryz.call55 (hrows := ⟨⟨fun _ => ⟨Nat.lt_succ_self 1, Nat.lt_succ_self 1, trivial, trivial⟩, rfl⟩, ⟨trivial, rfl⟩, trivial⟩) (hr2 := ⟨fun _ => ⟨rfl, rfl, trivial, trivial⟩, trivial, trivial⟩) 2 [43, 44] [0, 0] [] ?_
  have hLI : I64 (lastK (l2.map rkOf) key) := (last_i64 _ _ hbd2.2)
  generalize lastK (l2.map rkOf) key = LK at hLI ⊢
  by_cases hL : 0 ≤ LK
  ·rw [if_pos hL]
   refine gg (k := ?_)
   rw [decide_eq_true hL]
   refine gg (k := ?_)
   refine cmks (kill_vc A.2 0 c gad (by omega) pa LK hLI va v0 v1) Tryz.call85 3 [1, 3, 4] [0, 0, 0] [] ?_
   refine gg (k := ?_)
   exact ⟨_, rfl, rfl, trivial⟩
  ·rw [if_neg hL]
   refine gg (k := ?_)
   exact ⟨_, rfl, rfl, trivial⟩
 ·rw [if_neg hA]
  refine gg (k := ?_)
  exact ⟨_, rfl, rfl, trivial⟩)
   ·obtain ⟨l2, e2, b2, hS2⟩ : ∃ l e b, T.2.scan c c = (l, e, b) := ⟨_, _, _, rfl⟩
    rw [put_eq hi2 (Nat.one_mul c) hS2]
    have hbd2 := look_bound gc pb hS2
    refine cmks (now1 T.2 c gc pa pb hdd hi2 l2 e2 b2 hS2 vs va vb v0 v1) Tryz.call54 (he := ⟨fun _ => ⟨rfl, rfl, trivial, trivial⟩, trivial, fun _ => ⟨rfl, rfl, trivial, trivial⟩, trivial⟩) 5 [0, 1, 2, 3, 4, 0, 0, 0, 0, 0, 0, 0, 0, 0, 0, 0, 0, 0, 0, 0, 0, 0, 0, 0, 0, 0, 0, 0, 0, 0, 43, 44, 45] [0, 0, 0, 0, 0, 0, 0, 0, 0, 0, 0, 0, 0, 0, 0, 0, 0, 0, 0, 0, 0, 0, 0, 0, 0, 0, 0, 0, 0, 0, 1, 1, 1] [30, 31, 32] ?_
    refine gg (k := ?_)
    (
 have hadd := add_vc T.2 c c gc (by omega) pb key val hkl hvl z z' vb v0 v1
 have gad := Goes.add gc c c key val
 generalize FlS.add T.2 c c key val = A at hadd gad ⊢
 refine cmks (hadd) Tryz.call116 3 [2, 3, 4] [0, 0, 0] [] ?_
 by_cases hA : A.1 = 0
 ·rw [if_pos hA]
  refine gg (k := ?_)
  rw [decide_eq_true hA]
  refine gg (k := ?_)
  refine cmks (last_bs (RRel.of l2) hbd2 z key l2.length (l2.length + 4) 4 (rrOf_len l2 0).symm) Tryz.call55 (hrows := ⟨⟨fun _ => ⟨Nat.lt_succ_self 1, Nat.lt_succ_self 1, trivial, trivial⟩, rfl⟩, ⟨trivial, rfl⟩, trivial⟩) (hr2 := ⟨fun _ => ⟨rfl, rfl, trivial, trivial⟩, trivial, trivial⟩) 2 [43, 44] [0, 0] [] ?_
  have hLI : I64 (lastK (l2.map rkOf) key) := (last_i64 _ _ hbd2.2)
  generalize lastK (l2.map rkOf) key = LK at hLI ⊢
  by_cases hL : 0 ≤ LK
  ·rw [if_pos hL]
   refine gg (k := ?_)
   rw [decide_eq_true hL]
   refine gg (k := ?_)
   refine cmks (kill_vc A.2 c c gad (by omega) pb LK hLI vb v0 v1) Tryz.call85 3 [2, 3, 4] [0, 0, 0] [] ?_
   refine gg (k := ?_)
   exact ⟨_, rfl, rfl, trivial⟩
  ·rw [if_neg hL]
   refine gg (k := ?_)
   exact ⟨_, rfl, rfl, trivial⟩
 ·rw [if_neg hA]
  refine gg (k := ?_)
  exact ⟨_, rfl, rfl, trivial⟩)
 ·rw [if_neg hT]
  refine gg (k := ?_)
  exact ⟨_, rfl, rfl, trivial⟩)
 | true =>
  refine gg (k := ?_)
  refine gcl (k := ?_)
  refine cmks (sroom_vc s c g pa vs va vb v0 v1) Tryz.call47 5 [0, 1, 2, 3, 4] [0, 0, 0, 0, 0] [] ?_
  conv => whnf
  refine And.intro ⟨.inr rfl, .inr rfl, .inr rfl, .inr rfl, .inr rfl, trivial⟩ ?_
  have hgl := g.l
  have hcs : (c : Int) * (s.k : Int) = ((c * k : Nat) : Int) := by rw [hkn]; simp
  have hcs1 : (c : Int) * (s.k : Int) ≤ 4194304 := by omega
  have hcs0 : (e : Int) ≤ (c : Int) * (s.k : Int) := by omega
  by_cases hn : (c : Int) * s.k - 16 + 16 - (e : Int) < 12 + key.length + val.length
  ·rw [if_pos (.inr hn)]
   refine gg (k := ?_)
   (
 have hcp := copy0 s c g (by omega) pa pb hi (RRel.kept l) (fun r hr => hbd.1 r ((keptK_sub (l.map rkOf)).subset hr)) (by have := (keptK_sub (l.map rkOf)).length_le; rw [List.length_map] at this; omega) l (e : Int) true vs va vb v0 v1 4 4 (l.length + 4) (keptR l l.length).length rfl
 have gc := g.copy c (keptK (l.map rkOf))
 have hkl2 := (keptK_sub (l.map rkOf)).length_le
 rw [List.length_map] at hkl2
 generalize s.copy c (keptK (l.map rkOf)) = T at hcp gc ⊢
 refine cmks (hcp) Tryz.call127 (hrows := ⟨⟨⟨(by show 3 < 8; decide), (by show 1 < 8; decide), (by show 2 < 8; decide), trivial⟩, rfl⟩, ⟨⟨(by show 3 < 8; decide), trivial, trivial, trivial⟩, rfl⟩, ⟨⟨(by show 3 < 8; decide), trivial, trivial, trivial⟩, rfl⟩, ⟨⟨(by show 4 < 8; decide), trivial, trivial, trivial, trivial, trivial, trivial⟩, rfl⟩, ⟨trivial, rfl⟩, ⟨fun _ => ⟨(by show 6 < 8; decide), (by show 6 < 8; decide), trivial, trivial⟩, rfl⟩, ⟨trivial, rfl⟩, ⟨fun _ => ⟨(by show 6 < 8; decide), (by show 6 < 8; decide), trivial, trivial⟩, rfl⟩, trivial⟩) (hr2 := ⟨⟨rfl, rfl, rfl, trivial⟩, ⟨rfl, trivial, trivial, trivial⟩, ⟨rfl, trivial, trivial, trivial⟩, ⟨rfl, trivial, trivial, trivial, trivial, trivial, trivial⟩, trivial, fun _ => ⟨rfl, rfl, trivial, trivial⟩, trivial, fun _ => ⟨rfl, rfl, trivial, trivial⟩, trivial⟩) 8 [0, 1, 2, 3, 4, 42, 41, 40] [0, 0, 0, 0, 0, 0, 0, 0] [] ?_
 by_cases hT : T.1 = 0
 ·rw [if_pos hT]
  refine gg (k := ?_)
  rw [decide_eq_true hT]
  refine gg (k := ?_)
  rcases Bool.eq_false_or_eq_true T.2.dd with hdd | hdd
  ·rw [if_pos hdd]
   refine cmks (now_dead T.2 c hdd vs va vb v0 v1) Tryz.call54 5 [0, 1, 2, 3, 4] [0, 0, 0, 0, 0] [] ?_
   refine gg (k := ?_)
   exact ⟨_, rfl, rfl, trivial⟩
  ·rw [if_neg (by rw [hdd]; simp)]
   rcases cnt01 T.2 c with hi2 | hi2
   ·obtain ⟨l2, e2, b2, hS2⟩ : ∃ l e b, T.2.scan 0 c = (l, e, b) := ⟨_, _, _, rfl⟩
    rw [put_eq hi2 (Nat.zero_mul c) hS2]
    have hbd2 := look_bound gc pa hS2
    refine cmks (now0 T.2 c gc pa pb hdd hi2 l2 e2 b2 hS2 vs va vb v0 v1) Tryz.call54 (he := ⟨fun _ => ⟨rfl, rfl, trivial, trivial⟩, trivial, fun _ => ⟨rfl, rfl, trivial, trivial⟩, trivial⟩) 5 [0, 1, 2, 3, 4, 0, 0, 0, 0, 0, 0, 0, 0, 0, 0, 0, 0, 0, 0, 0, 0, 0, 0, 0, 0, 0, 0, 0, 0, 0, 43, 44, 45] [0, 0, 0, 0, 0, 0, 0, 0, 0, 0, 0, 0, 0, 0, 0, 0, 0, 0, 0, 0, 0, 0, 0, 0, 0, 0, 0, 0, 0, 0, 1, 1, 1] [30, 31, 32] ?_
    refine gg (k := ?_)
    (
 have hadd := add_vc T.2 0 c gc (by omega) pa key val hkl hvl z z' va v0 v1
 have gad := Goes.add gc 0 c key val
 generalize FlS.add T.2 0 c key val = A at hadd gad ⊢
 refine cmks (hadd) Tryz.call116 3 [1, 3, 4] [0, 0, 0] [] ?_
 by_cases hA : A.1 = 0
 ·rw [if_pos hA]
  refine gg (k := ?_)
  rw [decide_eq_true hA]
  refine gg (k := ?_)
  refine cmks (last_bs (RRel.of l2) hbd2 z key l2.length (l2.length + 4) 4 (rrOf_len l2 0).symm) Tryz.call55 (hrows := ⟨⟨fun _ => ⟨Nat.lt_succ_self 1, Nat.lt_succ_self 1, trivial, trivial⟩, rfl⟩, ⟨trivial, rfl⟩, trivial⟩) (hr2 := ⟨fun _ => ⟨rfl, rfl, trivial, trivial⟩, trivial, trivial⟩) 2 [43, 44] [0, 0] [] ?_
  have hLI : I64 (lastK (l2.map rkOf) key) := (last_i64 _ _ hbd2.2)
  generalize lastK (l2.map rkOf) key = LK at hLI ⊢
  by_cases hL : 0 ≤ LK
  ·rw [if_pos hL]
   refine gg (k := ?_)
   rw [decide_eq_true hL]
   refine gg (k := ?_)
   refine cmks (kill_vc A.2 0 c gad (by omega) pa LK hLI va v0 v1) Tryz.call85 3 [1, 3, 4] [0, 0, 0] [] ?_
   refine gg (k := ?_)
   exact ⟨_, rfl, rfl, trivial⟩
  ·rw [if_neg hL]
   refine gg (k := ?_)
   exact ⟨_, rfl, rfl, trivial⟩
 ·rw [if_neg hA]
  refine gg (k := ?_)
  exact ⟨_, rfl, rfl, trivial⟩)
   ·obtain ⟨l2, e2, b2, hS2⟩ : ∃ l e b, T.2.scan c c = (l, e, b) := ⟨_, _, _, rfl⟩
    rw [put_eq hi2 (Nat.one_mul c) hS2]
    have hbd2 := look_bound gc pb hS2
    refine cmks (now1 T.2 c gc pa pb hdd hi2 l2 e2 b2 hS2 vs va vb v0 v1) Tryz.call54 (he := ⟨fun _ => ⟨rfl, rfl, trivial, trivial⟩, trivial, fun _ => ⟨rfl, rfl, trivial, trivial⟩, trivial⟩) 5 [0, 1, 2, 3, 4, 0, 0, 0, 0, 0, 0, 0, 0, 0, 0, 0, 0, 0, 0, 0, 0, 0, 0, 0, 0, 0, 0, 0, 0, 0, 43, 44, 45] [0, 0, 0, 0, 0, 0, 0, 0, 0, 0, 0, 0, 0, 0, 0, 0, 0, 0, 0, 0, 0, 0, 0, 0, 0, 0, 0, 0, 0, 0, 1, 1, 1] [30, 31, 32] ?_
    refine gg (k := ?_)
    (
 have hadd := add_vc T.2 c c gc (by omega) pb key val hkl hvl z z' vb v0 v1
 have gad := Goes.add gc c c key val
 generalize FlS.add T.2 c c key val = A at hadd gad ⊢
 refine cmks (hadd) Tryz.call116 3 [2, 3, 4] [0, 0, 0] [] ?_
 by_cases hA : A.1 = 0
 ·rw [if_pos hA]
  refine gg (k := ?_)
  rw [decide_eq_true hA]
  refine gg (k := ?_)
  refine cmks (last_bs (RRel.of l2) hbd2 z key l2.length (l2.length + 4) 4 (rrOf_len l2 0).symm) Tryz.call55 (hrows := ⟨⟨fun _ => ⟨Nat.lt_succ_self 1, Nat.lt_succ_self 1, trivial, trivial⟩, rfl⟩, ⟨trivial, rfl⟩, trivial⟩) (hr2 := ⟨fun _ => ⟨rfl, rfl, trivial, trivial⟩, trivial, trivial⟩) 2 [43, 44] [0, 0] [] ?_
  have hLI : I64 (lastK (l2.map rkOf) key) := (last_i64 _ _ hbd2.2)
  generalize lastK (l2.map rkOf) key = LK at hLI ⊢
  by_cases hL : 0 ≤ LK
  ·rw [if_pos hL]
   refine gg (k := ?_)
   rw [decide_eq_true hL]
   refine gg (k := ?_)
   refine cmks (kill_vc A.2 c c gad (by omega) pb LK hLI vb v0 v1) Tryz.call85 3 [2, 3, 4] [0, 0, 0] [] ?_
   refine gg (k := ?_)
   exact ⟨_, rfl, rfl, trivial⟩
  ·rw [if_neg hL]
   refine gg (k := ?_)
   exact ⟨_, rfl, rfl, trivial⟩
 ·rw [if_neg hA]
  refine gg (k := ?_)
  exact ⟨_, rfl, rfl, trivial⟩)
 ·rw [if_neg hT]
  refine gg (k := ?_)
  exact ⟨_, rfl, rfl, trivial⟩)
  ·rw [if_neg (fun q => by rcases q with q | q; cases q; exact hn q), put_eq hi (show 0 * c = 0 by omega) hS]
   refine gg (k := ?_)
   rw [decide_eq_false hn]
   refine ⟨fun h => absurd h (by simp), fun _ => ?_⟩
   refine gg (k := ?_)
   (
 have hadd := add_vc s 0 c g (by omega) pa key val hkl hvl z z' va v0 v1
 have gad := Goes.add g 0 c key val
 generalize FlS.add s 0 c key val = A at hadd gad ⊢
 refine cmks (hadd) Tryz.call116 3 [1, 3, 4] [0, 0, 0] [] ?_
 by_cases hA : A.1 = 0
 ·rw [if_pos hA]
  refine gg (k := ?_)
  rw [decide_eq_true hA]
  refine gg (k := ?_)
  refine cmks (last_bs (RRel.of l) hbd z key l.length (l.length + 4) 4 (rrOf_len l 0).symm) Tryz.call55 (hrows := ⟨⟨fun _ => ⟨Nat.lt_succ_self 1, Nat.lt_succ_self 1, trivial, trivial⟩, rfl⟩, ⟨trivial, rfl⟩, trivial⟩) (hr2 := ⟨fun _ => ⟨rfl, rfl, trivial, trivial⟩, trivial, trivial⟩) 2 [40, 41] [0, 0] [] ?_
  have hLI : I64 (lastK (l.map rkOf) key) := (last_i64 _ _ hbd.2)
  generalize lastK (l.map rkOf) key = LK at hLI ⊢
  by_cases hL : 0 ≤ LK
  ·rw [if_pos hL]
   refine gg (k := ?_)
   rw [decide_eq_true hL]
   refine gg (k := ?_)
   refine cmks (kill_vc A.2 0 c gad (by omega) pa LK hLI va v0 v1) Tryz.call85 3 [1, 3, 4] [0, 0, 0] [] ?_
   refine gg (k := ?_)
   exact ⟨_, rfl, rfl, trivial⟩
  ·rw [if_neg hL]
   refine gg (k := ?_)
   exact ⟨_, rfl, rfl, trivial⟩
 ·rw [if_neg hA]
  refine gg (k := ?_)
  exact ⟨_, rfl, rfl, trivial⟩)
end Go.Proofs.YtmjpbmcbcppkfaaGreatDoor
namespace Go.Proofs.YtmjpbmcbcppkfaaGreatDoor
open Go.RowKit
set_option linter.unusedVariables false
set_option linter.unusedSimpArgs false
set_option maxRecDepth 100000
set_option maxHeartbeats 1500000
theorem set1 {W : Int} {n k : Nat} (s : FlS) (c : Nat) (g : Goes W n k s) (hW : W ≤ 1000000000000000) (pa : Lies n k 0 c) (pb : Lies n k c c) (hd : s.dd = false) (hi : (s.cnt c).1 = 1) (z z' : Nat) (key val : List UInt8) (hkl : key.length ≤ 140737488355328) (hvl : val.length ≤ 140737488355328) (vs va vb v0 v1 : Nat) : Spec Tryz.prog 97 [.ref 0 vs 3 0 0, .bs z key, .bs z' val] [⟨vs, .obj [.ref 3 v0 6 0 0, .ref 1 va 3 0 0, .ref 2 vb 3 0 0]⟩, ⟨va, .obj [.ref 3 v0 6 0 0, .val (.int .i64 ((0 : Nat) : Int)), .val (.int .i64 (c : Int))]⟩, ⟨vb, .obj [.ref 3 v0 6 0 0, .val (.int .i64 (c : Int)), .val (.int .i64 (c : Int))]⟩, ⟨v0, .obj [.own 4 v1 1 0 s.l.length, .val (.int .i64 (s.k : Int)), .val (.int .i64 s.ar), .val (.int .i64 s.pt), .val (.bool s.dd), .val (.int .i64 s.wr)]⟩, ⟨v1, .bytes s.l⟩]
   (pms (.val (.int .i64 (s.set c key val).1)) [⟨vs, .obj [.ref 3 v0 6 0 0, .ref 1 va 3 0 0, .ref 2 vb 3 0 0]⟩, ⟨va, .obj [.ref 3 v0 6 0 0, .val (.int .i64 ((0 : Nat) : Int)), .val (.int .i64 (c : Int))]⟩, ⟨vb, .obj [.ref 3 v0 6 0 0, .val (.int .i64 (c : Int)), .val (.int .i64 (c : Int))]⟩, ⟨v0, .obj [.own 4 v1 1 0 (s.set c key val).2.l.length, .val (.int .i64 ((s.set c key val).2.k : Int)), .val (.int .i64 (s.set c key val).2.ar), .val (.int .i64 (s.set c key val).2.pt), .val (.bool (s.set c key val).2.dd), .val (.int .i64 (s.set c key val).2.wr)]⟩, ⟨v1, .bytes (s.set c key val).2.l⟩] []) := by
 obtain ⟨l, e, b, hS⟩ : ∃ l e b, s.scan c c = (l, e, b) := ⟨_, _, _, rfl⟩
 have hrc : s.recs c = (l, e, b) := by unfold FlS.recs; rw [hi, show 1 * c = c by omega, hS]
 have hrk : s.recK c = l.map rkOf := by unfold FlS.recK; rw [hrc]
 have hbd := look_bound g pb hS
 have hfw := look_few g pb hS
 have hus := look_used g pb hS
 have hnw := now1 s c g pa pb hd hi l e b hS vs va vb v0 v1
 have hkn := g.k
 have hck : c ≤ 4194304 := pa.ac.2
 have hkk := g.kk
 have hfit := pa.fit
 have hglen := g.len
 have hel : e ≤ c * k := by
  have h1 := (scanG_le (s.bank c c) _ 16 rfl).2 (by rw [bank_len' g pb]; have := pa.big; omega)
  rw [show scanG (s.bank c c) 16 = (l, e, b) from hS, bank_len' g pb] at h1
  exact h1
 refine spec_entry tbOk Tryz.func97 rfl Tryz.ntmps97 Tryz.results97 ?_
 have hset : s.set c key val = if key.length < 1 ∨ 255 < key.length ∨ 65536 < val.length then (1, s) else if (c : Int) * s.k - 16 < usedK (keptK (l.map rkOf)) + (12 + key.length + val.length) then (5, s) else if b = false ∨ (c : Int) * s.k - 16 + 16 - (e : Int) < 12 + key.length + val.length then (if (s.copy c (keptK (l.map rkOf))).1 = 0 then (if (s.copy c (keptK (l.map rkOf))).2.dd = true then (6, (s.copy c (keptK (l.map rkOf))).2) else (s.copy c (keptK (l.map rkOf))).2.put c key val) else s.copy c (keptK (l.map rkOf))) else s.put c key val := by
  unfold FlS.set
  rw [hd, hrc, hrk]
  simp only [Bool.false_eq_true, if_false]
 rw [hset]
 clear hset
 by_cases hbad : key.length < 1 ∨ 255 < key.length ∨ 65536 < val.length
 ·rw [if_pos hbad]
  refine gg (k := ?_)
  exact ⟨_, rfl, rfl, trivial⟩
 rw [if_neg hbad]
 refine gg (k := ?_)
 refine cmks (hnw) Tryz.call54 (he := ⟨fun _ => ⟨rfl, rfl, trivial, trivial⟩, trivial, fun _ => ⟨rfl, rfl, trivial, trivial⟩, trivial⟩) 5 [0, 1, 2, 3, 4, 0, 0, 0, 0, 0, 0, 0, 0, 0, 0, 0, 0, 0, 0, 0, 0, 0, 0, 0, 0, 0, 0, 0, 0, 0, 40, 41, 42] [0, 0, 0, 0, 0, 0, 0, 0, 0, 0, 0, 0, 0, 0, 0, 0, 0, 0, 0, 0, 0, 0, 0, 0, 0, 0, 0, 0, 0, 0, 1, 1, 1] [30, 31, 32] ?_
 refine gg (k := ?_)
 refine cdet (need_vc (key.length : Int) (val.length : Int) (by omega) (by omega)) Tryz.call112 [] ?_
 refine gg (k := ?_)
 refine cmks (used_vc (RRel.kept l) (by omega) (by have := (keptK_sub (l.map rkOf)).length_le; rw [List.length_map] at this; omega) s c c l (e : Int) b (keptR l l.length).length 4 4 (l.length + 4) vb v0 v1 rfl) Tryz.call72 (hrows := ⟨⟨fun _ => ⟨(by show 1 < 6; decide), (by show 1 < 6; decide), trivial, trivial⟩, rfl⟩, ⟨trivial, rfl⟩, ⟨fun _ => ⟨(by show 1 < 6; decide), (by show 1 < 6; decide), trivial, trivial⟩, rfl⟩, ⟨⟨(by show 4 < 6; decide), trivial, trivial, trivial⟩, rfl⟩, ⟨⟨(by show 5 < 6; decide), trivial, trivial, trivial, trivial, trivial, trivial⟩, rfl⟩, ⟨trivial, rfl⟩, trivial⟩) (hr2 := ⟨fun _ => ⟨rfl, rfl, trivial, trivial⟩, trivial, fun _ => ⟨rfl, rfl, trivial, trivial⟩, ⟨rfl, trivial, trivial, trivial⟩, ⟨rfl, trivial, trivial, trivial, trivial, trivial, trivial⟩, trivial, trivial⟩) 6 [42, 41, 40, 2, 3, 4] [0, 0, 0, 0, 0, 0] [] ?_
 refine gg (k := ?_)
 refine cmks (sroom_vc s c g pa vs va vb v0 v1) Tryz.call47 5 [0, 1, 2, 3, 4] [0, 0, 0, 0, 0] [] ?_
 by_cases hfull : (c : Int) * s.k - 16 < usedK (keptK (l.map rkOf)) + (12 + key.length + val.length)
 ·rw [if_pos hfull]
  refine gg (k := ?_)
  exact ⟨_, rfl, rfl, trivial⟩
 rw [if_neg hfull]
 refine gg (k := ?_)
 (refine sts (k := ?_))
 refine draw_of (p := 5) tbOk hm [0, 1, 3, 7, 15, 15, 47, 111, 15, 271, 1007, 2047, 4095] [⟨0, true, false, [49, 50, 51, 52, 53, 54, 55, 56, 57, 58, 59, 60]⟩, ⟨1, true, false, [50, 51, 52, 53, 54, 55, 56, 57, 58, 59, 60]⟩, ⟨2, false, false, []⟩, ⟨3, false, false, []⟩, ⟨4, false, false, []⟩, ⟨5, false, false, []⟩, ⟨8, true, false, [52, 53, 54, 55, 57, 58, 59, 60]⟩, ⟨9, true, false, [52, 53, 54, 55, 58, 59, 60]⟩, ⟨6, true, false, [52, 55, 56, 57, 58, 59, 60]⟩, ⟨7, false, false, []⟩, ⟨10, false, false, []⟩, ⟨11, false, false, []⟩, ⟨12, false, false, []⟩] (by kernel_rfl) ?_
 cases b with
 | false =>
  rw [if_pos (.inl rfl)]
  refine gg (k := ?_)
  intro _
  refine gg (k := ?_)
  (
 have hcp := copy1 s c g (by omega) pa pb hi (RRel.kept l) (fun r hr => hbd.1 r ((keptK_sub (l.map rkOf)).subset hr)) (by have := (keptK_sub (l.map rkOf)).length_le; rw [List.length_map] at this; omega) l (e : Int) false vs va vb v0 v1 4 4 (l.length + 4) (keptR l l.length).length rfl
 have gc := g.copy c (keptK (l.map rkOf))
 have hkl2 := (keptK_sub (l.map rkOf)).length_le
 rw [List.length_map] at hkl2
 generalize s.copy c (keptK (l.map rkOf)) = T at hcp gc ⊢
 refine cmks (hcp) Tryz.call127 (hrows := ⟨⟨⟨(by show 3 < 8; decide), (by show 1 < 8; decide), (by show 2 < 8; decide), trivial⟩, rfl⟩, ⟨⟨(by show 3 < 8; decide), trivial, trivial, trivial⟩, rfl⟩, ⟨⟨(by show 3 < 8; decide), trivial, trivial, trivial⟩, rfl⟩, ⟨⟨(by show 4 < 8; decide), trivial, trivial, trivial, trivial, trivial, trivial⟩, rfl⟩, ⟨trivial, rfl⟩, ⟨fun _ => ⟨(by show 6 < 8; decide), (by show 6 < 8; decide), trivial, trivial⟩, rfl⟩, ⟨trivial, rfl⟩, ⟨fun _ => ⟨(by show 6 < 8; decide), (by show 6 < 8; decide), trivial, trivial⟩, rfl⟩, trivial⟩) (hr2 := ⟨⟨rfl, rfl, rfl, trivial⟩, ⟨rfl, trivial, trivial, trivial⟩, ⟨rfl, trivial, trivial, trivial⟩, ⟨rfl, trivial, trivial, trivial, trivial, trivial, trivial⟩, trivial, fun _ => ⟨rfl, rfl, trivial, trivial⟩, trivial, fun _ => ⟨rfl, rfl, trivial, trivial⟩, trivial⟩) 8 [0, 1, 2, 3, 4, 42, 41, 40] [0, 0, 0, 0, 0, 0, 0, 0] [] ?_
 by_cases hT : T.1 = 0
 ·rw [if_pos hT]
  refine gg (k := ?_)
  rw [decide_eq_true hT]
  refine gg (k := ?_)
  rcases Bool.eq_false_or_eq_true T.2.dd with hdd | hdd
  ·rw [if_pos hdd]
   refine cmks (now_dead T.2 c hdd vs va vb v0 v1) Tryz.call54 5 [0, 1, 2, 3, 4] [0, 0, 0, 0, 0] [] ?_
   refine gg (k := ?_)
   exact ⟨_, rfl, rfl, trivial⟩
  ·rw [if_neg (by rw [hdd]; simp)]
   rcases cnt01 T.2 c with hi2 | hi2
   ·obtain ⟨l2, e2, b2, hS2⟩ : ∃ l e b, T.2.scan 0 c = (l, e, b) := ⟨_, _, _, rfl⟩
    rw [put_eq hi2 (Nat.zero_mul c) hS2]
    have hbd2 := look_bound gc pa hS2
    refine cmks (now0 T.2 c gc pa pb hdd hi2 l2 e2 b2 hS2 vs va vb v0 v1) Tryz.call54 (he := ⟨fun _ => ⟨rfl, rfl, trivial, trivial⟩, trivial, fun _ => ⟨rfl, rfl, trivial, trivial⟩, trivial⟩) 5 [0, 1, 2, 3, 4, 0, 0, 0, 0, 0, 0, 0, 0, 0, 0, 0, 0, 0, 0, 0, 0, 0, 0, 0, 0, 0, 0, 0, 0, 0, 43, 44, 45] [0, 0, 0, 0, 0, 0, 0, 0, 0, 0, 0, 0, 0, 0, 0, 0, 0, 0, 0, 0, 0, 0, 0, 0, 0, 0, 0, 0, 0, 0, 1, 1, 1] [30, 31, 32] ?_
    refine gg (k := ?_)
    (
 have hadd := add_vc T.2 0 c gc (by omega) pa key val hkl hvl z z' va v0 v1
 have gad := Goes.add gc 0 c key val
 generalize FlS.add T.2 0 c key val = A at hadd gad ⊢
 refine cmks (hadd) Tryz.call116 3 [1, 3, 4] [0, 0, 0] [] ?_
 by_cases hA : A.1 = 0
 ·rw [if_pos hA]
  refine gg (k := ?_)
  rw [decide_eq_true hA]
  refine gg (k := ?_)
  refine cmks (last_bs (RRel.of l2) hbd2 z key l2.length (l2.length + 4) 4 (rrOf_len l2 0).symm) Tryz.call55 (hrows := ⟨⟨fun _ => ⟨Nat.lt_succ_self 1, Nat.lt_succ_self 1, trivial, trivial⟩, rfl⟩, ⟨trivial, rfl⟩, trivial⟩) (hr2 := ⟨fun _ => ⟨rfl, rfl, trivial, trivial⟩, trivial, trivial⟩) 2 [43, 44] [0, 0] [] ?_
  have hLI : I64 (lastK (l2.map rkOf) key) := (last_i64 _ _ hbd2.2)
  generalize lastK (l2.map rkOf) key = LK at hLI ⊢
  by_cases hL : 0 ≤ LK
  ·rw [if_pos hL]
   refine gg (k := ?_)
   rw [decide_eq_true hL]
   refine gg (k := ?_)
   refine cmks (kill_vc A.2 0 c gad (by omega) pa LK hLI va v0 v1) Tryz.call85 3 [1, 3, 4] [0, 0, 0] [] ?_
   refine gg (k := ?_)
   exact ⟨_, rfl, rfl, trivial⟩
  ·rw [if_neg hL]
   refine gg (k := ?_)
   exact ⟨_, rfl, rfl, trivial⟩
 ·rw [if_neg hA]
  refine gg (k := ?_)
  exact ⟨_, rfl, rfl, trivial⟩)
   ·obtain ⟨l2, e2, b2, hS2⟩ : ∃ l e b, T.2.scan c c = (l, e, b) := ⟨_, _, _, rfl⟩
    rw [put_eq hi2 (Nat.one_mul c) hS2]
    have hbd2 := look_bound gc pb hS2
    refine cmks (now1 T.2 c gc pa pb hdd hi2 l2 e2 b2 hS2 vs va vb v0 v1) Tryz.call54 (he := ⟨fun _ => ⟨rfl, rfl, trivial, trivial⟩, trivial, fun _ => ⟨rfl, rfl, trivial, trivial⟩, trivial⟩) 5 [0, 1, 2, 3, 4, 0, 0, 0, 0, 0, 0, 0, 0, 0, 0, 0, 0, 0, 0, 0, 0, 0, 0, 0, 0, 0, 0, 0, 0, 0, 43, 44, 45] [0, 0, 0, 0, 0, 0, 0, 0, 0, 0, 0, 0, 0, 0, 0, 0, 0, 0, 0, 0, 0, 0, 0, 0, 0, 0, 0, 0, 0, 0, 1, 1, 1] [30, 31, 32] ?_
    refine gg (k := ?_)
    (
 have hadd := add_vc T.2 c c gc (by omega) pb key val hkl hvl z z' vb v0 v1
 have gad := Goes.add gc c c key val
 generalize FlS.add T.2 c c key val = A at hadd gad ⊢
 refine cmks (hadd) Tryz.call116 3 [2, 3, 4] [0, 0, 0] [] ?_
 by_cases hA : A.1 = 0
 ·rw [if_pos hA]
  refine gg (k := ?_)
  rw [decide_eq_true hA]
  refine gg (k := ?_)
  refine cmks (last_bs (RRel.of l2) hbd2 z key l2.length (l2.length + 4) 4 (rrOf_len l2 0).symm) Tryz.call55 (hrows := ⟨⟨fun _ => ⟨Nat.lt_succ_self 1, Nat.lt_succ_self 1, trivial, trivial⟩, rfl⟩, ⟨trivial, rfl⟩, trivial⟩) (hr2 := ⟨fun _ => ⟨rfl, rfl, trivial, trivial⟩, trivial, trivial⟩) 2 [43, 44] [0, 0] [] ?_
  have hLI : I64 (lastK (l2.map rkOf) key) := (last_i64 _ _ hbd2.2)
  generalize lastK (l2.map rkOf) key = LK at hLI ⊢
  by_cases hL : 0 ≤ LK
  ·rw [if_pos hL]
   refine gg (k := ?_)
   rw [decide_eq_true hL]
   refine gg (k := ?_)
   refine cmks (kill_vc A.2 c c gad (by omega) pb LK hLI vb v0 v1) Tryz.call85 3 [2, 3, 4] [0, 0, 0] [] ?_
   refine gg (k := ?_)
   exact ⟨_, rfl, rfl, trivial⟩
  ·rw [if_neg hL]
   refine gg (k := ?_)
   exact ⟨_, rfl, rfl, trivial⟩
 ·rw [if_neg hA]
  refine gg (k := ?_)
  exact ⟨_, rfl, rfl, trivial⟩)
 ·rw [if_neg hT]
  refine gg (k := ?_)
  exact ⟨_, rfl, rfl, trivial⟩)
 | true =>
  refine gg (k := ?_)
  refine gcl (k := ?_)
  refine cmks (sroom_vc s c g pa vs va vb v0 v1) Tryz.call47 5 [0, 1, 2, 3, 4] [0, 0, 0, 0, 0] [] ?_
  conv => whnf
  refine And.intro ⟨.inr rfl, .inr rfl, .inr rfl, .inr rfl, .inr rfl, trivial⟩ ?_
  have hgl := g.l
  have hcs : (c : Int) * (s.k : Int) = ((c * k : Nat) : Int) := by rw [hkn]; simp
  have hcs1 : (c : Int) * (s.k : Int) ≤ 4194304 := by omega
  have hcs0 : (e : Int) ≤ (c : Int) * (s.k : Int) := by omega
  by_cases hn : (c : Int) * s.k - 16 + 16 - (e : Int) < 12 + key.length + val.length
  ·rw [if_pos (.inr hn)]
   refine gg (k := ?_)
   (
 have hcp := copy1 s c g (by omega) pa pb hi (RRel.kept l) (fun r hr => hbd.1 r ((keptK_sub (l.map rkOf)).subset hr)) (by have := (keptK_sub (l.map rkOf)).length_le; rw [List.length_map] at this; omega) l (e : Int) true vs va vb v0 v1 4 4 (l.length + 4) (keptR l l.length).length rfl
 have gc := g.copy c (keptK (l.map rkOf))
 have hkl2 := (keptK_sub (l.map rkOf)).length_le
 rw [List.length_map] at hkl2
 generalize s.copy c (keptK (l.map rkOf)) = T at hcp gc ⊢
 refine cmks (hcp) Tryz.call127 (hrows := ⟨⟨⟨(by show 3 < 8; decide), (by show 1 < 8; decide), (by show 2 < 8; decide), trivial⟩, rfl⟩, ⟨⟨(by show 3 < 8; decide), trivial, trivial, trivial⟩, rfl⟩, ⟨⟨(by show 3 < 8; decide), trivial, trivial, trivial⟩, rfl⟩, ⟨⟨(by show 4 < 8; decide), trivial, trivial, trivial, trivial, trivial, trivial⟩, rfl⟩, ⟨trivial, rfl⟩, ⟨fun _ => ⟨(by show 6 < 8; decide), (by show 6 < 8; decide), trivial, trivial⟩, rfl⟩, ⟨trivial, rfl⟩, ⟨fun _ => ⟨(by show 6 < 8; decide), (by show 6 < 8; decide), trivial, trivial⟩, rfl⟩, trivial⟩) (hr2 := ⟨⟨rfl, rfl, rfl, trivial⟩, ⟨rfl, trivial, trivial, trivial⟩, ⟨rfl, trivial, trivial, trivial⟩, ⟨rfl, trivial, trivial, trivial, trivial, trivial, trivial⟩, trivial, fun _ => ⟨rfl, rfl, trivial, trivial⟩, trivial, fun _ => ⟨rfl, rfl, trivial, trivial⟩, trivial⟩) 8 [0, 1, 2, 3, 4, 42, 41, 40] [0, 0, 0, 0, 0, 0, 0, 0] [] ?_
 by_cases hT : T.1 = 0
 ·rw [if_pos hT]
  refine gg (k := ?_)
  rw [decide_eq_true hT]
  refine gg (k := ?_)
  rcases Bool.eq_false_or_eq_true T.2.dd with hdd | hdd
  ·rw [if_pos hdd]
   refine cmks (now_dead T.2 c hdd vs va vb v0 v1) Tryz.call54 5 [0, 1, 2, 3, 4] [0, 0, 0, 0, 0] [] ?_
   refine gg (k := ?_)
   exact ⟨_, rfl, rfl, trivial⟩
  ·rw [if_neg (by rw [hdd]; simp)]
   rcases cnt01 T.2 c with hi2 | hi2
   ·obtain ⟨l2, e2, b2, hS2⟩ : ∃ l e b, T.2.scan 0 c = (l, e, b) := ⟨_, _, _, rfl⟩
    rw [put_eq hi2 (Nat.zero_mul c) hS2]
    have hbd2 := look_bound gc pa hS2
    refine cmks (now0 T.2 c gc pa pb hdd hi2 l2 e2 b2 hS2 vs va vb v0 v1) Tryz.call54 (he := ⟨fun _ => ⟨rfl, rfl, trivial, trivial⟩, trivial, fun _ => ⟨rfl, rfl, trivial, trivial⟩, trivial⟩) 5 [0, 1, 2, 3, 4, 0, 0, 0, 0, 0, 0, 0, 0, 0, 0, 0, 0, 0, 0, 0, 0, 0, 0, 0, 0, 0, 0, 0, 0, 0, 43, 44, 45] [0, 0, 0, 0, 0, 0, 0, 0, 0, 0, 0, 0, 0, 0, 0, 0, 0, 0, 0, 0, 0, 0, 0, 0, 0, 0, 0, 0, 0, 0, 1, 1, 1] [30, 31, 32] ?_
    refine gg (k := ?_)
    (
 have hadd := add_vc T.2 0 c gc (by omega) pa key val hkl hvl z z' va v0 v1
 have gad := Goes.add gc 0 c key val
 generalize FlS.add T.2 0 c key val = A at hadd gad ⊢
 refine cmks (hadd) Tryz.call116 3 [1, 3, 4] [0, 0, 0] [] ?_
 by_cases hA : A.1 = 0
 ·rw [if_pos hA]
  refine gg (k := ?_)
  rw [decide_eq_true hA]
  refine gg (k := ?_)
  refine cmks (last_bs (RRel.of l2) hbd2 z key l2.length (l2.length + 4) 4 (rrOf_len l2 0).symm) Tryz.call55 (hrows := ⟨⟨fun _ => ⟨Nat.lt_succ_self 1, Nat.lt_succ_self 1, trivial, trivial⟩, rfl⟩, ⟨trivial, rfl⟩, trivial⟩) (hr2 := ⟨fun _ => ⟨rfl, rfl, trivial, trivial⟩, trivial, trivial⟩) 2 [43, 44] [0, 0] [] ?_
  have hLI : I64 (lastK (l2.map rkOf) key) := (last_i64 _ _ hbd2.2)
  generalize lastK (l2.map rkOf) key = LK at hLI ⊢
  by_cases hL : 0 ≤ LK
  ·rw [if_pos hL]
   refine gg (k := ?_)
   rw [decide_eq_true hL]
   refine gg (k := ?_)
   refine cmks (kill_vc A.2 0 c gad (by omega) pa LK hLI va v0 v1) Tryz.call85 3 [1, 3, 4] [0, 0, 0] [] ?_
   refine gg (k := ?_)
   exact ⟨_, rfl, rfl, trivial⟩
  ·rw [if_neg hL]
   refine gg (k := ?_)
   exact ⟨_, rfl, rfl, trivial⟩
 ·rw [if_neg hA]
  refine gg (k := ?_)
  exact ⟨_, rfl, rfl, trivial⟩)
   ·obtain ⟨l2, e2, b2, hS2⟩ : ∃ l e b, T.2.scan c c = (l, e, b) := ⟨_, _, _, rfl⟩
    rw [put_eq hi2 (Nat.one_mul c) hS2]
    have hbd2 := look_bound gc pb hS2
    refine cmks (now1 T.2 c gc pa pb hdd hi2 l2 e2 b2 hS2 vs va vb v0 v1) Tryz.call54 (he := ⟨fun _ => ⟨rfl, rfl, trivial, trivial⟩, trivial, fun _ => ⟨rfl, rfl, trivial, trivial⟩, trivial⟩) 5 [0, 1, 2, 3, 4, 0, 0, 0, 0, 0, 0, 0, 0, 0, 0, 0, 0, 0, 0, 0, 0, 0, 0, 0, 0, 0, 0, 0, 0, 0, 43, 44, 45] [0, 0, 0, 0, 0, 0, 0, 0, 0, 0, 0, 0, 0, 0, 0, 0, 0, 0, 0, 0, 0, 0, 0, 0, 0, 0, 0, 0, 0, 0, 1, 1, 1] [30, 31, 32] ?_
    refine gg (k := ?_)
    (
 have hadd := add_vc T.2 c c gc (by omega) pb key val hkl hvl z z' vb v0 v1
 have gad := Goes.add gc c c key val
 generalize FlS.add T.2 c c key val = A at hadd gad ⊢
 refine cmks (hadd) Tryz.call116 3 [2, 3, 4] [0, 0, 0] [] ?_
 by_cases hA : A.1 = 0
 ·rw [if_pos hA]
  refine gg (k := ?_)
  rw [decide_eq_true hA]
  refine gg (k := ?_)
  refine cmks (last_bs (RRel.of l2) hbd2 z key l2.length (l2.length + 4) 4 (rrOf_len l2 0).symm) Tryz.call55 (hrows := ⟨⟨fun _ => ⟨Nat.lt_succ_self 1, Nat.lt_succ_self 1, trivial, trivial⟩, rfl⟩, ⟨trivial, rfl⟩, trivial⟩) (hr2 := ⟨fun _ => ⟨rfl, rfl, trivial, trivial⟩, trivial, trivial⟩) 2 [43, 44] [0, 0] [] ?_
  have hLI : I64 (lastK (l2.map rkOf) key) := (last_i64 _ _ hbd2.2)
  generalize lastK (l2.map rkOf) key = LK at hLI ⊢
  by_cases hL : 0 ≤ LK
  ·rw [if_pos hL]
   refine gg (k := ?_)
   rw [decide_eq_true hL]
   refine gg (k := ?_)
   refine cmks (kill_vc A.2 c c gad (by omega) pb LK hLI vb v0 v1) Tryz.call85 3 [2, 3, 4] [0, 0, 0] [] ?_
   refine gg (k := ?_)
   exact ⟨_, rfl, rfl, trivial⟩
  ·rw [if_neg hL]
   refine gg (k := ?_)
   exact ⟨_, rfl, rfl, trivial⟩
 ·rw [if_neg hA]
  refine gg (k := ?_)
  exact ⟨_, rfl, rfl, trivial⟩)
 ·rw [if_neg hT]
  refine gg (k := ?_)
  exact ⟨_, rfl, rfl, trivial⟩)
  ·rw [if_neg (fun q => by rcases q with q | q; cases q; exact hn q), put_eq hi (show 1 * c = c by omega) hS]
   refine gg (k := ?_)
   rw [decide_eq_false hn]
   refine ⟨fun h => absurd h (by simp), fun _ => ?_⟩
   refine gg (k := ?_)
   (
 have hadd := add_vc s c c g (by omega) pb key val hkl hvl z z' vb v0 v1
 have gad := Goes.add g c c key val
 generalize FlS.add s c c key val = A at hadd gad ⊢
 refine cmks (hadd) Tryz.call116 3 [2, 3, 4] [0, 0, 0] [] ?_
 by_cases hA : A.1 = 0
 ·rw [if_pos hA]
  refine gg (k := ?_)
  rw [decide_eq_true hA]
  refine gg (k := ?_)
  refine cmks (last_bs (RRel.of l) hbd z key l.length (l.length + 4) 4 (rrOf_len l 0).symm) Tryz.call55 (hrows := ⟨⟨fun _ => ⟨Nat.lt_succ_self 1, Nat.lt_succ_self 1, trivial, trivial⟩, rfl⟩, ⟨trivial, rfl⟩, trivial⟩) (hr2 := ⟨fun _ => ⟨rfl, rfl, trivial, trivial⟩, trivial, trivial⟩) 2 [40, 41] [0, 0] [] ?_
  have hLI : I64 (lastK (l.map rkOf) key) := (last_i64 _ _ hbd.2)
  generalize lastK (l.map rkOf) key = LK at hLI ⊢
  by_cases hL : 0 ≤ LK
  ·rw [if_pos hL]
   refine gg (k := ?_)
   rw [decide_eq_true hL]
   refine gg (k := ?_)
   refine cmks (kill_vc A.2 c c gad (by omega) pb LK hLI vb v0 v1) Tryz.call85 3 [2, 3, 4] [0, 0, 0] [] ?_
   refine gg (k := ?_)
   exact ⟨_, rfl, rfl, trivial⟩
  ·rw [if_neg hL]
   refine gg (k := ?_)
   exact ⟨_, rfl, rfl, trivial⟩
 ·rw [if_neg hA]
  refine gg (k := ?_)
  exact ⟨_, rfl, rfl, trivial⟩)
end Go.Proofs.YtmjpbmcbcppkfaaGreatDoor
