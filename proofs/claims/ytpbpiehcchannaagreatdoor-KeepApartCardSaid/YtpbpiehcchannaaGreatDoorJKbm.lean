/- Walks of lintellaw21: does (more kinds). Conditions: none. -/
import Derived.Test.YtpbpiehcchannaaGreatDoorJKo2
namespace Go.Proofs.YtpbpiehcchannaaGreatDoor
open Go.RowKit
set_option linter.unusedVariables false
set_option linter.unusedSimpArgs false
set_option maxRecDepth 100000
set_option maxHeartbeats 1500000
theorem does21_note {W : Int} {n k : Nat} (s : FlS) (go : Goes W n k s) (hW : W ≤ 1000000000000000) (pa : Lies n k 0 1) (pb : Lies n k 1 1) (hd : s.dd = false) (o : OpV) (ho : o.Ok) (hK : o.K = 5) (vk vs va vb v0 v1 : Nat) : Spec Tryz.prog 48 [.val (.pointer none), .ref 0 vk 1 0 0, .agg (opA o)] [⟨vk, .obj [.ref 1 vs 3 0 0]⟩, ⟨vs, .obj [.ref 4 v0 6 0 0, .ref 2 va 3 0 0, .ref 3 vb 3 0 0]⟩, ⟨va, .obj [.ref 4 v0 6 0 0, .val (.int .i64 ((0 : Nat) : Int)), .val (.int .i64 (1 : Int))]⟩, ⟨vb, .obj [.ref 4 v0 6 0 0, .val (.int .i64 (1 : Int)), .val (.int .i64 (1 : Int))]⟩, ⟨v0, .obj [.own 5 v1 1 0 s.l.length, .val (.int .i64 (s.k : Int)), .val (.int .i64 s.ar), .val (.int .i64 s.pt), .val (.bool s.dd), .val (.int .i64 s.wr)]⟩, ⟨v1, .bytes s.l⟩] (pms (.tup [.agg (toldA (.val (.slice none 0 0)) varZ 0 false (s.set 1 markK [u8 o.x]).1), .ref 0 vk 1 0 0]) [⟨vk, .obj [.ref 1 vs 3 0 0]⟩, ⟨vs, .obj [.ref 4 v0 6 0 0, .ref 2 va 3 0 0, .ref 3 vb 3 0 0]⟩, ⟨va, .obj [.ref 4 v0 6 0 0, .val (.int .i64 ((0 : Nat) : Int)), .val (.int .i64 (1 : Int))]⟩, ⟨vb, .obj [.ref 4 v0 6 0 0, .val (.int .i64 (1 : Int)), .val (.int .i64 (1 : Int))]⟩, ⟨v0, .obj [.own 5 v1 1 0 (s.set 1 markK [u8 o.x]).2.l.length, .val (.int .i64 ((s.set 1 markK [u8 o.x]).2.k : Int)), .val (.int .i64 (s.set 1 markK [u8 o.x]).2.ar), .val (.int .i64 (s.set 1 markK [u8 o.x]).2.pt), .val (.bool (s.set 1 markK [u8 o.x]).2.dd), .val (.int .i64 (s.set 1 markK [u8 o.x]).2.wr)]⟩, ⟨v1, .bytes (s.set 1 markK [u8 o.x]).2.l⟩] []) := by
 (
 obtain ⟨K, u, x⟩ := o
 have hu := ho.v
 have hx := ho.x
 simp only at hu hx hK
 have hud := hu.d
 refine spec_entry tbOk Tryz.func48 rfl Tryz.ntmps48 Tryz.results48 ?_
 unfold opA varA
 simp only [List.cons_append, List.nil_append]
 refine gg (k := ?_)
 refine cmks (twin21_raw 0 u.d hud) Tryz.call96 0 [0, 0, 0, 30] [0, 0, 0, 1] [3] ?_
 refine gg (k := ?_))
 subst hK
 refine gg (k := ?_)
 refine cmks (kset_vc s 1 go hW pa pb hd x hx vk vs va vb v0 v1) Tryz.call61 6 [0, 1, 2, 3, 4, 5] [0, 0, 0, 0, 0, 0] [] ?_
 refine gg (k := ?_)
 exact ⟨_, rfl, rfl, trivial⟩
theorem does21_other (s : FlS) (o : OpV) (ho : o.Ok) (hK : ¬ (0 ≤ o.K ∧ o.K ≤ 6)) (vk vs va vb v0 v1 : Nat) : Spec Tryz.prog 48 [.val (.pointer none), .ref 0 vk 1 0 0, .agg (opA o)] [⟨vk, .obj [.ref 1 vs 3 0 0]⟩, ⟨vs, .obj [.ref 4 v0 6 0 0, .ref 2 va 3 0 0, .ref 3 vb 3 0 0]⟩, ⟨va, .obj [.ref 4 v0 6 0 0, .val (.int .i64 ((0 : Nat) : Int)), .val (.int .i64 (1 : Int))]⟩, ⟨vb, .obj [.ref 4 v0 6 0 0, .val (.int .i64 (1 : Int)), .val (.int .i64 (1 : Int))]⟩, ⟨v0, .obj [.own 5 v1 1 0 s.l.length, .val (.int .i64 (s.k : Int)), .val (.int .i64 s.ar), .val (.int .i64 s.pt), .val (.bool s.dd), .val (.int .i64 s.wr)]⟩, ⟨v1, .bytes s.l⟩] (pms (.tup [.agg (toldA (.val (.slice none 0 0)) varZ 0 false 0), .ref 0 vk 1 0 0]) [⟨vk, .obj [.ref 1 vs 3 0 0]⟩, ⟨vs, .obj [.ref 4 v0 6 0 0, .ref 2 va 3 0 0, .ref 3 vb 3 0 0]⟩, ⟨va, .obj [.ref 4 v0 6 0 0, .val (.int .i64 ((0 : Nat) : Int)), .val (.int .i64 (1 : Int))]⟩, ⟨vb, .obj [.ref 4 v0 6 0 0, .val (.int .i64 (1 : Int)), .val (.int .i64 (1 : Int))]⟩, ⟨v0, .obj [.own 5 v1 1 0 s.l.length, .val (.int .i64 (s.k : Int)), .val (.int .i64 s.ar), .val (.int .i64 s.pt), .val (.bool s.dd), .val (.int .i64 s.wr)]⟩, ⟨v1, .bytes s.l⟩] []) := by
 (
 obtain ⟨K, u, x⟩ := o
 have hu := ho.v
 have hx := ho.x
 simp only at hu hx hK
 have hud := hu.d
 refine spec_entry tbOk Tryz.func48 rfl Tryz.ntmps48 Tryz.results48 ?_
 unfold opA varA
 simp only [List.cons_append, List.nil_append]
 refine gg (k := ?_)
 refine cmks (twin21_raw 0 u.d hud) Tryz.call96 0 [0, 0, 0, 30] [0, 0, 0, 1] [3] ?_
 refine gg (k := ?_))
 exact ⟨_, rfl, rfl, trivial⟩
theorem does21_getno (s : FlS) (o : OpV) (ho : o.Ok) (hK : o.K = 0) (vk vs va vb v0 v1 : Nat) (e : Int) (hG : Spec Tryz.prog 44 [.ref 0 vk 1 0 0, .val (.string o.v.nm), .agg (bytesA 16 o.v.g)] [⟨vk, .obj [.ref 1 vs 3 0 0]⟩, ⟨vs, .obj [.ref 4 v0 6 0 0, .ref 2 va 3 0 0, .ref 3 vb 3 0 0]⟩, ⟨va, .obj [.ref 4 v0 6 0 0, .val (.int .i64 ((0 : Nat) : Int)), .val (.int .i64 (1 : Int))]⟩, ⟨vb, .obj [.ref 4 v0 6 0 0, .val (.int .i64 (1 : Int)), .val (.int .i64 (1 : Int))]⟩, ⟨v0, .obj [.own 5 v1 1 0 s.l.length, .val (.int .i64 (s.k : Int)), .val (.int .i64 s.ar), .val (.int .i64 s.pt), .val (.bool s.dd), .val (.int .i64 s.wr)]⟩, ⟨v1, .bytes s.l⟩] (pms (.tup [.agg (varA (.val (.slice none 0 0)) varZ), .val (.bool false), .val (.int .i64 e)]) [⟨vk, .obj [.ref 1 vs 3 0 0]⟩, ⟨vs, .obj [.ref 4 v0 6 0 0, .ref 2 va 3 0 0, .ref 3 vb 3 0 0]⟩, ⟨va, .obj [.ref 4 v0 6 0 0, .val (.int .i64 ((0 : Nat) : Int)), .val (.int .i64 (1 : Int))]⟩, ⟨vb, .obj [.ref 4 v0 6 0 0, .val (.int .i64 (1 : Int)), .val (.int .i64 (1 : Int))]⟩, ⟨v0, .obj [.own 5 v1 1 0 s.l.length, .val (.int .i64 (s.k : Int)), .val (.int .i64 s.ar), .val (.int .i64 s.pt), .val (.bool s.dd), .val (.int .i64 s.wr)]⟩, ⟨v1, .bytes s.l⟩] [])) : Spec Tryz.prog 48 [.val (.pointer none), .ref 0 vk 1 0 0, .agg (opA o)] [⟨vk, .obj [.ref 1 vs 3 0 0]⟩, ⟨vs, .obj [.ref 4 v0 6 0 0, .ref 2 va 3 0 0, .ref 3 vb 3 0 0]⟩, ⟨va, .obj [.ref 4 v0 6 0 0, .val (.int .i64 ((0 : Nat) : Int)), .val (.int .i64 (1 : Int))]⟩, ⟨vb, .obj [.ref 4 v0 6 0 0, .val (.int .i64 (1 : Int)), .val (.int .i64 (1 : Int))]⟩, ⟨v0, .obj [.own 5 v1 1 0 s.l.length, .val (.int .i64 (s.k : Int)), .val (.int .i64 s.ar), .val (.int .i64 s.pt), .val (.bool s.dd), .val (.int .i64 s.wr)]⟩, ⟨v1, .bytes s.l⟩] (pms (.tup [.agg (toldA (.bs 0 []) varZ 0 false e), .ref 0 vk 1 0 0]) [⟨vk, .obj [.ref 1 vs 3 0 0]⟩, ⟨vs, .obj [.ref 4 v0 6 0 0, .ref 2 va 3 0 0, .ref 3 vb 3 0 0]⟩, ⟨va, .obj [.ref 4 v0 6 0 0, .val (.int .i64 ((0 : Nat) : Int)), .val (.int .i64 (1 : Int))]⟩, ⟨vb, .obj [.ref 4 v0 6 0 0, .val (.int .i64 (1 : Int)), .val (.int .i64 (1 : Int))]⟩, ⟨v0, .obj [.own 5 v1 1 0 s.l.length, .val (.int .i64 (s.k : Int)), .val (.int .i64 s.ar), .val (.int .i64 s.pt), .val (.bool s.dd), .val (.int .i64 s.wr)]⟩, ⟨v1, .bytes s.l⟩] []) := by
 (
 obtain ⟨K, u, x⟩ := o
 have hu := ho.v
 have hx := ho.x
 simp only at hu hx hK
 have hud := hu.d
 refine spec_entry tbOk Tryz.func48 rfl Tryz.ntmps48 Tryz.results48 ?_
 unfold opA varA
 simp only [List.cons_append, List.nil_append]
 refine gg (k := ?_)
 refine cmks (twin21_raw 0 u.d hud) Tryz.call96 0 [0, 0, 0, 30] [0, 0, 0, 1] [3] ?_
 refine gg (k := ?_))
 subst hK
 refine gg (k := ?_)
 refine cmks (hG) Tryz.call44 (hon := rowu) 6 [0, 1, 2, 3, 4, 5] [0, 0, 0, 0, 0, 0] [] ?_
 unfold varA
 refine gg (k := ?_)
 refine cmks (twin21_nil) Tryz.call96 0 [] [] [] ?_
 refine gg (k := ?_)
 (refine sts (k := ?_))
 conv => whnf
 refine loop_at (fun i : Nat => i = 0) (fun i => 0) 6 [13, 49, 50, 51, 52, 53, 54, 55, 56, 57, 58, 59] (fun i => [(13, .val (.int .i64 0))]) (fun i => []) 0 rfl ?_ ?_ ?_
 ·exact no_implicit_lambda% ten
 ·exact no_implicit_lambda% hen
 ·rintro i v i1
  refine glp (k := ?_)
  refine gg (k := ?_)
  exact ⟨_, rfl, rfl, trivial⟩
theorem does21_get (s : FlS) (o : OpV) (ho : o.Ok) (hK : o.K = 0) (vk vs va vb v0 v1 : Nat) (r : VarV) (hrd : r.d.length ≤ 1000000) (hG : Spec Tryz.prog 44 [.ref 0 vk 1 0 0, .val (.string o.v.nm), .agg (bytesA 16 o.v.g)] [⟨vk, .obj [.ref 1 vs 3 0 0]⟩, ⟨vs, .obj [.ref 4 v0 6 0 0, .ref 2 va 3 0 0, .ref 3 vb 3 0 0]⟩, ⟨va, .obj [.ref 4 v0 6 0 0, .val (.int .i64 ((0 : Nat) : Int)), .val (.int .i64 (1 : Int))]⟩, ⟨vb, .obj [.ref 4 v0 6 0 0, .val (.int .i64 (1 : Int)), .val (.int .i64 (1 : Int))]⟩, ⟨v0, .obj [.own 5 v1 1 0 s.l.length, .val (.int .i64 (s.k : Int)), .val (.int .i64 s.ar), .val (.int .i64 s.pt), .val (.bool s.dd), .val (.int .i64 s.wr)]⟩, ⟨v1, .bytes s.l⟩] (pms (.tup [.agg (varA (.own 54 4 1 0 r.d.length) r), .val (.bool true), .val (.int .i64 0)]) [⟨vk, .obj [.ref 1 vs 3 0 0]⟩, ⟨vs, .obj [.ref 4 v0 6 0 0, .ref 2 va 3 0 0, .ref 3 vb 3 0 0]⟩, ⟨va, .obj [.ref 4 v0 6 0 0, .val (.int .i64 ((0 : Nat) : Int)), .val (.int .i64 (1 : Int))]⟩, ⟨vb, .obj [.ref 4 v0 6 0 0, .val (.int .i64 (1 : Int)), .val (.int .i64 (1 : Int))]⟩, ⟨v0, .obj [.own 5 v1 1 0 s.l.length, .val (.int .i64 (s.k : Int)), .val (.int .i64 s.ar), .val (.int .i64 s.pt), .val (.bool s.dd), .val (.int .i64 s.wr)]⟩, ⟨v1, .bytes s.l⟩] [(54, ⟨4, .bytes r.d⟩)])) : Spec Tryz.prog 48 [.val (.pointer none), .ref 0 vk 1 0 0, .agg (opA o)] [⟨vk, .obj [.ref 1 vs 3 0 0]⟩, ⟨vs, .obj [.ref 4 v0 6 0 0, .ref 2 va 3 0 0, .ref 3 vb 3 0 0]⟩, ⟨va, .obj [.ref 4 v0 6 0 0, .val (.int .i64 ((0 : Nat) : Int)), .val (.int .i64 (1 : Int))]⟩, ⟨vb, .obj [.ref 4 v0 6 0 0, .val (.int .i64 (1 : Int)), .val (.int .i64 (1 : Int))]⟩, ⟨v0, .obj [.own 5 v1 1 0 s.l.length, .val (.int .i64 (s.k : Int)), .val (.int .i64 s.ar), .val (.int .i64 s.pt), .val (.bool s.dd), .val (.int .i64 s.wr)]⟩, ⟨v1, .bytes s.l⟩] (pms (.tup [.agg (toldA (.bs 0 r.d) r 0 true 0), .ref 0 vk 1 0 0]) [⟨vk, .obj [.ref 1 vs 3 0 0]⟩, ⟨vs, .obj [.ref 4 v0 6 0 0, .ref 2 va 3 0 0, .ref 3 vb 3 0 0]⟩, ⟨va, .obj [.ref 4 v0 6 0 0, .val (.int .i64 ((0 : Nat) : Int)), .val (.int .i64 (1 : Int))]⟩, ⟨vb, .obj [.ref 4 v0 6 0 0, .val (.int .i64 (1 : Int)), .val (.int .i64 (1 : Int))]⟩, ⟨v0, .obj [.own 5 v1 1 0 s.l.length, .val (.int .i64 (s.k : Int)), .val (.int .i64 s.ar), .val (.int .i64 s.pt), .val (.bool s.dd), .val (.int .i64 s.wr)]⟩, ⟨v1, .bytes s.l⟩] []) := by
 (
 obtain ⟨K, u, x⟩ := o
 have hu := ho.v
 have hx := ho.x
 simp only at hu hx hK
 have hud := hu.d
 refine spec_entry tbOk Tryz.func48 rfl Tryz.ntmps48 Tryz.results48 ?_
 unfold opA varA
 simp only [List.cons_append, List.nil_append]
 refine gg (k := ?_)
 refine cmks (twin21_raw 0 u.d hud) Tryz.call96 0 [0, 0, 0, 30] [0, 0, 0, 1] [3] ?_
 refine gg (k := ?_))
 subst hK
 refine gg (k := ?_)
 refine cmks (hG) Tryz.call44 (hon := rowu) 6 [0, 1, 2, 3, 4, 5, 0, 0, 0, 0, 0, 0, 0, 0, 0, 0, 0, 0, 0, 0, 0, 0, 0, 0, 0, 0, 0, 0, 0, 0, 0, 0, 0, 0, 0, 0, 0, 0, 0, 0, 0, 0, 0, 0, 0, 0, 0, 0, 0, 0, 0, 0, 0, 0, 42] [0, 0, 0, 0, 0, 0, 0, 0, 0, 0, 0, 0, 0, 0, 0, 0, 0, 0, 0, 0, 0, 0, 0, 0, 0, 0, 0, 0, 0, 0, 0, 0, 0, 0, 0, 0, 0, 0, 0, 0, 0, 0, 0, 0, 0, 0, 0, 0, 0, 0, 0, 0, 0, 0, 1] [54] ?_
 unfold varA
 refine gg (k := ?_)
 refine cmks (twin21_own r.d (by omega) r.d.length rfl 5) Tryz.call96 1 [42] [0] [] ?_
 refine gg (k := ?_)
 simp only [takeL, dropL, List.map_cons, List.map_nil, List.nil_append, List.cons_append, List.append_eq, List.length_cons, List.length_nil, Nat.reduceAdd, putA]
 (refine sts (k := ?_))
 conv => whnf
 refine loop_at (fun y : Nat × List UInt8 => y.1 ≤ r.d.length ∧ y.2.length = r.d.length) (fun y => r.d.length - y.1) 6 [13, 49, 50, 51, 52, 53, 54, 55, 56, 57, 58, 59] (fun y => [(13, .val (.int .i64 (y.1 : Int)))]) (fun y => [(42, ⟨5, .bytes y.2⟩)]) (0, r.d) ⟨Nat.zero_le _, rfl⟩ ?_ ?_ ?_
 ·exact no_implicit_lambda% ten
 ·exact no_implicit_lambda% hen
 ·rintro ⟨i, w⟩ z ⟨u1, u2⟩
  simp only at u1 u2
  refine glp (k := ?_)
  refine gg (k := ?_)
  refine ⟨fun h => ?_, fun h => ?_⟩
  ·have hlt : i < r.d.length := by have := of_decide_eq_true h; omega
   refine gg (k := ?_)
   refine back_at (i + 1, w.set (0 + (i : Int).toNat) (UInt8.ofNat (Int.toNat 85))) ⟨hlt, by simp [u2]⟩ (by show r.d.length - (i + 1) < r.d.length - i; omega) ?_ ?_
   ·exact no_implicit_lambda% ten
   ·exact no_implicit_lambda% hen
  ·refine gg (k := ?_)
   exact ⟨_, rfl, rfl, trivial⟩
end Go.Proofs.YtpbpiehcchannaaGreatDoor
