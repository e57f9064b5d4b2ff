/- Walks of lintellaw21: does. Conditions: none. -/
import Derived.Test.YtpbpiehcchannaaGreatDoorJKo2
namespace Go.Proofs.YtpbpiehcchannaaGreatDoor
open Go.RowKit
set_option linter.unusedVariables false
set_option linter.unusedSimpArgs false
set_option maxRecDepth 100000
set_option maxHeartbeats 1500000
theorem does21_put {W : Int} {n k : Nat} (s : FlS) (go : Goes W n k s) (hW : W ≤ 1000000000000000) (pa : Lies n k 0 1) (pb : Lies n k 1 1) (hd : s.dd = false) (o : OpV) (ho : o.Ok) (hK : o.K = 1) (vk vs va vb v0 v1 : Nat) : Spec Tryz.prog 48 [.val (.pointer none), .ref 0 vk 1 0 0, .agg (opA o)] [⟨vk, .obj [.ref 1 vs 3 0 0]⟩, ⟨vs, .obj [.ref 4 v0 6 0 0, .ref 2 va 3 0 0, .ref 3 vb 3 0 0]⟩, ⟨va, .obj [.ref 4 v0 6 0 0, .val (.int .i64 ((0 : Nat) : Int)), .val (.int .i64 (1 : Int))]⟩, ⟨vb, .obj [.ref 4 v0 6 0 0, .val (.int .i64 (1 : Int)), .val (.int .i64 (1 : Int))]⟩, ⟨v0, .obj [.own 5 v1 1 0 s.l.length, .val (.int .i64 (s.k : Int)), .val (.int .i64 s.ar), .val (.int .i64 s.pt), .val (.bool s.dd), .val (.int .i64 s.wr)]⟩, ⟨v1, .bytes s.l⟩] (pms (.tup [.agg (toldA (.val (.slice none 0 0)) varZ 0 true (kputP s o.v).1), .ref 0 vk 1 0 0]) [⟨vk, .obj [.ref 1 vs 3 0 0]⟩, ⟨vs, .obj [.ref 4 v0 6 0 0, .ref 2 va 3 0 0, .ref 3 vb 3 0 0]⟩, ⟨va, .obj [.ref 4 v0 6 0 0, .val (.int .i64 ((0 : Nat) : Int)), .val (.int .i64 (1 : Int))]⟩, ⟨vb, .obj [.ref 4 v0 6 0 0, .val (.int .i64 (1 : Int)), .val (.int .i64 (1 : Int))]⟩, ⟨v0, .obj [.own 5 v1 1 0 (kputP s o.v).2.l.length, .val (.int .i64 ((kputP s o.v).2.k : Int)), .val (.int .i64 (kputP s o.v).2.ar), .val (.int .i64 (kputP s o.v).2.pt), .val (.bool (kputP s o.v).2.dd), .val (.int .i64 (kputP s o.v).2.wr)]⟩, ⟨v1, .bytes (kputP s o.v).2.l⟩] []) := by
 (
 obtain ⟨K, u, x⟩ := o
 have hu := ho.v
 have hx := ho.x
 simp only at hu hx hK
 have hud := hu.d
 refine spec_entry tbOk Tryz.func48 rfl Tryz.ntmps48 Tryz.results48 ?_
 unfold opA varA
 simp only [List.cons_append, List.nil_append]
 refine gg (k := ?_)
 refine cmks (twin21_raw 0 u.d hud) Tryz.call96 0 [0, 0, 0, 30] [0, 0, 0, 1] [3] ?_
 refine gg (k := ?_))
 subst hK
 refine cmks (kput_own s go hW pa pb hd u hu u.d.length rfl vk vs va vb v0 v1 3) Tryz.call59 (hon := ⟨(by decide : 0 < 7), varA_on (x := .own 6 3 1 0 u.d.length) (P := (· < 7)) (show 6 < 7 by decide) _, trivial⟩) 7 [0, 1, 2, 3, 4, 5, 30] [0, 0, 0, 0, 0, 0, 0] [] ?_
 refine gg (k := ?_)
 (refine sts (k := ?_))
 conv => whnf
 refine loop_at (fun y : Nat × List UInt8 => y.1 ≤ u.d.length ∧ y.2.length = u.d.length) (fun y => u.d.length - y.1) 6 [14, 75, 76, 77, 78, 79, 80, 81, 82, 83, 84, 85] (fun y => [(14, .val (.int .i64 (y.1 : Int)))]) (fun y => [(30, ⟨3, .bytes y.2⟩)]) (0, u.d) ⟨Nat.zero_le _, rfl⟩ ?_ ?_ ?_
 ·exact no_implicit_lambda% ten
 ·exact no_implicit_lambda% hen
 ·rintro ⟨i, w⟩ z ⟨u1, u2⟩
  simp only at u1 u2
  refine glp (k := ?_)
  refine gg (k := ?_)
  refine ⟨fun h => ?_, fun h => ?_⟩
  ·have hlt : i < u.d.length := by have := of_decide_eq_true h; omega
   refine gg (k := ?_)
   refine back_at (i + 1, w.set (0 + (i : Int).toNat) (UInt8.ofNat (Int.toNat 85))) ⟨hlt, by simp [u2]⟩ (by show u.d.length - (i + 1) < u.d.length - i; omega) ?_ ?_
   ·exact no_implicit_lambda% ten
   ·exact no_implicit_lambda% hen
  ·refine gg (k := ?_)
   rw [show decide ((strOf ((u.d.drop 0).take u.d.length)).data.toList = (strOf u.d).data.toList) = true from decide_eq_true (by rw [whole u.d])]
   exact ⟨_, rfl, rfl, trivial⟩
def kdropP (s : FlS) (nm : ByteArray) (g : List UInt8) : Int × FlS := if rightN nm = true then s.del 1 (keyV nm g) else (1, s)
theorem kdrop_any {W : Int} {n k : Nat} (s : FlS) (go : Goes W n k s) (hW : W ≤ 1000000000000000) (pa : Lies n k 0 1) (pb : Lies n k 1 1) (nm : ByteArray) (hn : nm.size ≤ 140737488355328) (g : List UInt8) (hg : g.length = 16) (vk vs va vb v0 v1 : Nat) : Spec Tryz.prog 60 [.ref 0 vk 1 0 0, .val (.string nm), .agg (bytesA 16 g)] [⟨vk, .obj [.ref 1 vs 3 0 0]⟩, ⟨vs, .obj [.ref 4 v0 6 0 0, .ref 2 va 3 0 0, .ref 3 vb 3 0 0]⟩, ⟨va, .obj [.ref 4 v0 6 0 0, .val (.int .i64 ((0 : Nat) : Int)), .val (.int .i64 (1 : Int))]⟩, ⟨vb, .obj [.ref 4 v0 6 0 0, .val (.int .i64 (1 : Int)), .val (.int .i64 (1 : Int))]⟩, ⟨v0, .obj [.own 5 v1 1 0 s.l.length, .val (.int .i64 (s.k : Int)), .val (.int .i64 s.ar), .val (.int .i64 s.pt), .val (.bool s.dd), .val (.int .i64 s.wr)]⟩, ⟨v1, .bytes s.l⟩]
   (pms (.val (.int .i64 (kdropP s nm g).1)) [⟨vk, .obj [.ref 1 vs 3 0 0]⟩, ⟨vs, .obj [.ref 4 v0 6 0 0, .ref 2 va 3 0 0, .ref 3 vb 3 0 0]⟩, ⟨va, .obj [.ref 4 v0 6 0 0, .val (.int .i64 ((0 : Nat) : Int)), .val (.int .i64 (1 : Int))]⟩, ⟨vb, .obj [.ref 4 v0 6 0 0, .val (.int .i64 (1 : Int)), .val (.int .i64 (1 : Int))]⟩, ⟨v0, .obj [.own 5 v1 1 0 (kdropP s nm g).2.l.length, .val (.int .i64 ((kdropP s nm g).2.k : Int)), .val (.int .i64 (kdropP s nm g).2.ar), .val (.int .i64 (kdropP s nm g).2.pt), .val (.bool (kdropP s nm g).2.dd), .val (.int .i64 (kdropP s nm g).2.wr)]⟩, ⟨v1, .bytes (kdropP s nm g).2.l⟩] []) := by
 cases h : rightN nm with
 | true =>
  rw [show kdropP s nm g = s.del 1 (keyV nm g) from if_pos h]
  exact kdrop_vc s 1 go hW pa pb nm g hg h vk vs va vb v0 v1
 | false =>
  rw [show kdropP s nm g = (1, s) from if_neg (by rw [h]; simp)]
  exact kdrop_bad s 1 nm hn g h vk vs va vb v0 v1
theorem does21_drop {W : Int} {n k : Nat} (s : FlS) (go : Goes W n k s) (hW : W ≤ 1000000000000000) (pa : Lies n k 0 1) (pb : Lies n k 1 1) (o : OpV) (ho : o.Ok) (hK : o.K = 2) (vk vs va vb v0 v1 : Nat) : Spec Tryz.prog 48 [.val (.pointer none), .ref 0 vk 1 0 0, .agg (opA o)] [⟨vk, .obj [.ref 1 vs 3 0 0]⟩, ⟨vs, .obj [.ref 4 v0 6 0 0, .ref 2 va 3 0 0, .ref 3 vb 3 0 0]⟩, ⟨va, .obj [.ref 4 v0 6 0 0, .val (.int .i64 ((0 : Nat) : Int)), .val (.int .i64 (1 : Int))]⟩, ⟨vb, .obj [.ref 4 v0 6 0 0, .val (.int .i64 (1 : Int)), .val (.int .i64 (1 : Int))]⟩, ⟨v0, .obj [.own 5 v1 1 0 s.l.length, .val (.int .i64 (s.k : Int)), .val (.int .i64 s.ar), .val (.int .i64 s.pt), .val (.bool s.dd), .val (.int .i64 s.wr)]⟩, ⟨v1, .bytes s.l⟩] (pms (.tup [.agg (toldA (.val (.slice none 0 0)) varZ 0 false (kdropP s o.v.nm o.v.g).1), .ref 0 vk 1 0 0]) [⟨vk, .obj [.ref 1 vs 3 0 0]⟩, ⟨vs, .obj [.ref 4 v0 6 0 0, .ref 2 va 3 0 0, .ref 3 vb 3 0 0]⟩, ⟨va, .obj [.ref 4 v0 6 0 0, .val (.int .i64 ((0 : Nat) : Int)), .val (.int .i64 (1 : Int))]⟩, ⟨vb, .obj [.ref 4 v0 6 0 0, .val (.int .i64 (1 : Int)), .val (.int .i64 (1 : Int))]⟩, ⟨v0, .obj [.own 5 v1 1 0 (kdropP s o.v.nm o.v.g).2.l.length, .val (.int .i64 ((kdropP s o.v.nm o.v.g).2.k : Int)), .val (.int .i64 (kdropP s o.v.nm o.v.g).2.ar), .val (.int .i64 (kdropP s o.v.nm o.v.g).2.pt), .val (.bool (kdropP s o.v.nm o.v.g).2.dd), .val (.int .i64 (kdropP s o.v.nm o.v.g).2.wr)]⟩, ⟨v1, .bytes (kdropP s o.v.nm o.v.g).2.l⟩] []) := by
 (
 obtain ⟨K, u, x⟩ := o
 have hu := ho.v
 have hx := ho.x
 simp only at hu hx hK
 have hud := hu.d
 refine spec_entry tbOk Tryz.func48 rfl Tryz.ntmps48 Tryz.results48 ?_
 unfold opA varA
 simp only [List.cons_append, List.nil_append]
 refine gg (k := ?_)
 refine cmks (twin21_raw 0 u.d hud) Tryz.call96 0 [0, 0, 0, 30] [0, 0, 0, 1] [3] ?_
 refine gg (k := ?_))
 subst hK
 refine gg (k := ?_)
 refine cmks (kdrop_any s go hW pa pb u.nm hu.nm u.g hu.g vk vs va vb v0 v1) Tryz.call60 (hon := rowu) 6 [0, 1, 2, 3, 4, 5] [0, 0, 0, 0, 0, 0] [] ?_
 refine gg (k := ?_)
 exact ⟨_, rfl, rfl, trivial⟩
theorem does21_next (s : FlS) (o : OpV) (ho : o.Ok) (hK : o.K = 3) (vk vs va vb v0 v1 : Nat) (a : ByteArray) (b : List UInt8) (e : Int) (hN : Spec Tryz.prog 45 [.ref 0 vk 1 0 0, .val (.string o.v.nm), .agg (bytesA 16 o.v.g)] [⟨vk, .obj [.ref 1 vs 3 0 0]⟩, ⟨vs, .obj [.ref 4 v0 6 0 0, .ref 2 va 3 0 0, .ref 3 vb 3 0 0]⟩, ⟨va, .obj [.ref 4 v0 6 0 0, .val (.int .i64 ((0 : Nat) : Int)), .val (.int .i64 (1 : Int))]⟩, ⟨vb, .obj [.ref 4 v0 6 0 0, .val (.int .i64 (1 : Int)), .val (.int .i64 (1 : Int))]⟩, ⟨v0, .obj [.own 5 v1 1 0 s.l.length, .val (.int .i64 (s.k : Int)), .val (.int .i64 s.ar), .val (.int .i64 s.pt), .val (.bool s.dd), .val (.int .i64 s.wr)]⟩, ⟨v1, .bytes s.l⟩] (pms (.tup [.val (.string a), .agg (bytesA 16 b), .val (.int .i64 e)]) [⟨vk, .obj [.ref 1 vs 3 0 0]⟩, ⟨vs, .obj [.ref 4 v0 6 0 0, .ref 2 va 3 0 0, .ref 3 vb 3 0 0]⟩, ⟨va, .obj [.ref 4 v0 6 0 0, .val (.int .i64 ((0 : Nat) : Int)), .val (.int .i64 (1 : Int))]⟩, ⟨vb, .obj [.ref 4 v0 6 0 0, .val (.int .i64 (1 : Int)), .val (.int .i64 (1 : Int))]⟩, ⟨v0, .obj [.own 5 v1 1 0 s.l.length, .val (.int .i64 (s.k : Int)), .val (.int .i64 s.ar), .val (.int .i64 s.pt), .val (.bool s.dd), .val (.int .i64 s.wr)]⟩, ⟨v1, .bytes s.l⟩] [])) : Spec Tryz.prog 48 [.val (.pointer none), .ref 0 vk 1 0 0, .agg (opA o)] [⟨vk, .obj [.ref 1 vs 3 0 0]⟩, ⟨vs, .obj [.ref 4 v0 6 0 0, .ref 2 va 3 0 0, .ref 3 vb 3 0 0]⟩, ⟨va, .obj [.ref 4 v0 6 0 0, .val (.int .i64 ((0 : Nat) : Int)), .val (.int .i64 (1 : Int))]⟩, ⟨vb, .obj [.ref 4 v0 6 0 0, .val (.int .i64 (1 : Int)), .val (.int .i64 (1 : Int))]⟩, ⟨v0, .obj [.own 5 v1 1 0 s.l.length, .val (.int .i64 (s.k : Int)), .val (.int .i64 s.ar), .val (.int .i64 s.pt), .val (.bool s.dd), .val (.int .i64 s.wr)]⟩, ⟨v1, .bytes s.l⟩] (pms (.tup [.agg (toldA (.val (.slice none 0 0)) ⟨a, b, 0, ⟨0, 0, 0, 0, 0, 0⟩, List.replicate 32 0, []⟩ 0 false e), .ref 0 vk 1 0 0]) [⟨vk, .obj [.ref 1 vs 3 0 0]⟩, ⟨vs, .obj [.ref 4 v0 6 0 0, .ref 2 va 3 0 0, .ref 3 vb 3 0 0]⟩, ⟨va, .obj [.ref 4 v0 6 0 0, .val (.int .i64 ((0 : Nat) : Int)), .val (.int .i64 (1 : Int))]⟩, ⟨vb, .obj [.ref 4 v0 6 0 0, .val (.int .i64 (1 : Int)), .val (.int .i64 (1 : Int))]⟩, ⟨v0, .obj [.own 5 v1 1 0 s.l.length, .val (.int .i64 (s.k : Int)), .val (.int .i64 s.ar), .val (.int .i64 s.pt), .val (.bool s.dd), .val (.int .i64 s.wr)]⟩, ⟨v1, .bytes s.l⟩] []) := by
 (
 obtain ⟨K, u, x⟩ := o
 have hu := ho.v
 have hx := ho.x
 simp only at hu hx hK
 have hud := hu.d
 refine spec_entry tbOk Tryz.func48 rfl Tryz.ntmps48 Tryz.results48 ?_
 unfold opA varA
 simp only [List.cons_append, List.nil_append]
 refine gg (k := ?_)
 refine cmks (twin21_raw 0 u.d hud) Tryz.call96 0 [0, 0, 0, 30] [0, 0, 0, 1] [3] ?_
 refine gg (k := ?_))
 subst hK
 refine gg (k := ?_)
 refine cmks (hN) Tryz.call45 (hon := rowu) (hX := rowu) 6 [0, 1, 2, 3, 4, 5] [0, 0, 0, 0, 0, 0] [] ?_
 refine gg (k := ?_)
 exact ⟨_, rfl, rfl, trivial⟩
theorem does21_mark (s : FlS) (o : OpV) (ho : o.Ok) (hK : o.K = 4) (vk vs va vb v0 v1 : Nat) (m : Int) (hm : 0 ≤ m ∧ m ≤ 255) (hM : Spec Tryz.prog 47 [.ref 0 vk 1 0 0] [⟨vk, .obj [.ref 1 vs 3 0 0]⟩, ⟨vs, .obj [.ref 4 v0 6 0 0, .ref 2 va 3 0 0, .ref 3 vb 3 0 0]⟩, ⟨va, .obj [.ref 4 v0 6 0 0, .val (.int .i64 ((0 : Nat) : Int)), .val (.int .i64 (1 : Int))]⟩, ⟨vb, .obj [.ref 4 v0 6 0 0, .val (.int .i64 (1 : Int)), .val (.int .i64 (1 : Int))]⟩, ⟨v0, .obj [.own 5 v1 1 0 s.l.length, .val (.int .i64 (s.k : Int)), .val (.int .i64 s.ar), .val (.int .i64 s.pt), .val (.bool s.dd), .val (.int .i64 s.wr)]⟩, ⟨v1, .bytes s.l⟩] (pms (.tup [.val (.int .u8 m), .val (.int .i64 0)]) [⟨vk, .obj [.ref 1 vs 3 0 0]⟩, ⟨vs, .obj [.ref 4 v0 6 0 0, .ref 2 va 3 0 0, .ref 3 vb 3 0 0]⟩, ⟨va, .obj [.ref 4 v0 6 0 0, .val (.int .i64 ((0 : Nat) : Int)), .val (.int .i64 (1 : Int))]⟩, ⟨vb, .obj [.ref 4 v0 6 0 0, .val (.int .i64 (1 : Int)), .val (.int .i64 (1 : Int))]⟩, ⟨v0, .obj [.own 5 v1 1 0 s.l.length, .val (.int .i64 (s.k : Int)), .val (.int .i64 s.ar), .val (.int .i64 s.pt), .val (.bool s.dd), .val (.int .i64 s.wr)]⟩, ⟨v1, .bytes s.l⟩] [])) : Spec Tryz.prog 48 [.val (.pointer none), .ref 0 vk 1 0 0, .agg (opA o)] [⟨vk, .obj [.ref 1 vs 3 0 0]⟩, ⟨vs, .obj [.ref 4 v0 6 0 0, .ref 2 va 3 0 0, .ref 3 vb 3 0 0]⟩, ⟨va, .obj [.ref 4 v0 6 0 0, .val (.int .i64 ((0 : Nat) : Int)), .val (.int .i64 (1 : Int))]⟩, ⟨vb, .obj [.ref 4 v0 6 0 0, .val (.int .i64 (1 : Int)), .val (.int .i64 (1 : Int))]⟩, ⟨v0, .obj [.own 5 v1 1 0 s.l.length, .val (.int .i64 (s.k : Int)), .val (.int .i64 s.ar), .val (.int .i64 s.pt), .val (.bool s.dd), .val (.int .i64 s.wr)]⟩, ⟨v1, .bytes s.l⟩] (pms (.tup [.agg (toldA (.val (.slice none 0 0)) varZ m false 0), .ref 0 vk 1 0 0]) [⟨vk, .obj [.ref 1 vs 3 0 0]⟩, ⟨vs, .obj [.ref 4 v0 6 0 0, .ref 2 va 3 0 0, .ref 3 vb 3 0 0]⟩, ⟨va, .obj [.ref 4 v0 6 0 0, .val (.int .i64 ((0 : Nat) : Int)), .val (.int .i64 (1 : Int))]⟩, ⟨vb, .obj [.ref 4 v0 6 0 0, .val (.int .i64 (1 : Int)), .val (.int .i64 (1 : Int))]⟩, ⟨v0, .obj [.own 5 v1 1 0 s.l.length, .val (.int .i64 (s.k : Int)), .val (.int .i64 s.ar), .val (.int .i64 s.pt), .val (.bool s.dd), .val (.int .i64 s.wr)]⟩, ⟨v1, .bytes s.l⟩] []) := by
 (
 obtain ⟨K, u, x⟩ := o
 have hu := ho.v
 have hx := ho.x
 simp only at hu hx hK
 have hud := hu.d
 refine spec_entry tbOk Tryz.func48 rfl Tryz.ntmps48 Tryz.results48 ?_
 unfold opA varA
 simp only [List.cons_append, List.nil_append]
 refine gg (k := ?_)
 refine cmks (twin21_raw 0 u.d hud) Tryz.call96 0 [0, 0, 0, 30] [0, 0, 0, 1] [3] ?_
 refine gg (k := ?_))
 subst hK
 refine gg (k := ?_)
 refine cmks (hM) Tryz.call47 6 [0, 1, 2, 3, 4, 5] [0, 0, 0, 0, 0, 0] [] ?_
 refine gg (k := ?_)
 exact ⟨_, rfl, rfl, trivial⟩
end Go.Proofs.YtpbpiehcchannaaGreatDoor
