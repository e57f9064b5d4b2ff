/- Walks of lintellaw09: does, on a store. Conditions: none. -/
import Derived.Test.YtpbpiehcchannaaGreatDoorJNka
namespace Go.Proofs.YtpbpiehcchannaaGreatDoor
open Go.RowKit
set_option linter.unusedVariables false
set_option linter.unusedSimpArgs false
set_option maxRecDepth 100000
set_option maxHeartbeats 1500000
theorem set_ov {W : Int} {n k : Nat} (s : FlS) (c : Nat) (g : Goes W n k s) (hW : W ≤ 1000000000000000) (pa : Lies n k 0 c) (pb : Lies n k c c) (hd : s.dd = false) (key val : List UInt8) (vn : Nat) (hvn : vn = val.length) (hkl : key.length ≤ 140737488355328) (hvl : val.length ≤ 140737488355328) (vs va vb v0 v1 v3 : Nat) : Spec Tryz.prog 22 [.ref 0 vs 3 0 0, .bs 0 key, .own 5 v3 1 0 vn] [⟨vs, .obj [.ref 3 v0 6 0 0, .ref 1 va 3 0 0, .ref 2 vb 3 0 0]⟩, ⟨va, .obj [.ref 3 v0 6 0 0, .val (.int .i64 ((0 : Nat) : Int)), .val (.int .i64 (c : Int))]⟩, ⟨vb, .obj [.ref 3 v0 6 0 0, .val (.int .i64 (c : Int)), .val (.int .i64 (c : Int))]⟩, ⟨v0, .obj [.own 4 v1 1 0 s.l.length, .val (.int .i64 (s.k : Int)), .val (.int .i64 s.ar), .val (.int .i64 s.pt), .val (.bool s.dd), .val (.int .i64 s.wr)]⟩, ⟨v1, .bytes s.l⟩, ⟨v3, .bytes val⟩]
   (pms (.val (.int .i64 (s.set c key val).1)) [⟨vs, .obj [.ref 3 v0 6 0 0, .ref 1 va 3 0 0, .ref 2 vb 3 0 0]⟩, ⟨va, .obj [.ref 3 v0 6 0 0, .val (.int .i64 ((0 : Nat) : Int)), .val (.int .i64 (c : Int))]⟩, ⟨vb, .obj [.ref 3 v0 6 0 0, .val (.int .i64 (c : Int)), .val (.int .i64 (c : Int))]⟩, ⟨v0, .obj [.own 4 v1 1 0 (s.set c key val).2.l.length, .val (.int .i64 ((s.set c key val).2.k : Int)), .val (.int .i64 (s.set c key val).2.ar), .val (.int .i64 (s.set c key val).2.pt), .val (.bool (s.set c key val).2.dd), .val (.int .i64 (s.set c key val).2.wr)]⟩, ⟨v1, .bytes (s.set c key val).2.l⟩, ⟨v3, .bytes val⟩] []) := by
 subst hvn
 have e' := whole val
 have h := spec_rx (set_vc s c g hW pa pb hd 0 0 key ((val.drop 0).take val.length) hkl (by rw [e']; exact hvl) vs va vb v0 v1) (R := [⟨v3, .bytes val⟩]) (args := [.ref 0 vs 3 0 0, .bs 0 key, .own 5 v3 1 0 val.length])
  trivial ⟨⟨trivial, trivial, trivial, trivial⟩, ⟨trivial, trivial, trivial, trivial⟩, ⟨trivial, trivial, trivial, trivial⟩, ⟨trivial, trivial, trivial, trivial, trivial, trivial, trivial⟩, trivial, trivial⟩ ⟨⟨(by decide : 3 < 5), (by decide : 1 < 5), (by decide : 2 < 5), trivial⟩, ⟨(by decide : 3 < 5), trivial, trivial, trivial⟩, ⟨(by decide : 3 < 5), trivial, trivial, trivial⟩, ⟨(by decide : 4 < 5), trivial, trivial, trivial, trivial, trivial, trivial⟩, trivial, trivial⟩ ⟨⟨trivial, trivial, trivial, trivial⟩, ⟨trivial, trivial, trivial, trivial⟩, ⟨trivial, trivial, trivial, trivial⟩, ⟨trivial, trivial, trivial, trivial, trivial, trivial, trivial⟩, trivial, trivial⟩ rfl trivial trivial
  (asX_cons (aX_same trivial (by decide : 0 < 5)) (asX_cons (aX_bs) (asX_cons (aX_own (q := 0) (l := val) rfl (by omega)) asX_nil)))
 rw [e'] at h
 exact h
theorem same_own_bs9 (a : List UInt8) (n : Nat) (hn : n = a.length) (hb : a.length ≤ 140737488355328) (v z : Nat) : Spec Tryz.prog 19 [.own 0 v 1 0 n, .bs z a] [⟨v, .bytes a⟩] (pms (.val (.bool true)) [⟨v, .bytes a⟩] []) := by
 subst hn
 have h := spec_ro (same_vc 0 0 ((a.drop 0).take a.length) a (by rw [whole]; exact hb)) trivial trivial (rows := [⟨v, .bytes a⟩]) (args := [.own 0 v 1 0 a.length, .bs z a]) (asL_cons (as_own rfl (by omega)) (asL_cons as_bs asL_nil))
 rw [whole, decide_eq_true (rfl : a = a)] at h
 exact h
theorem does9_set {W : Int} {n k : Nat} (s : FlS) (c : Nat) (g : Goes W n k s) (hW : W ≤ 1000000000000000) (pa : Lies n k 0 c) (pb : Lies n k c c) (hd : s.dd = false) (o : OpB) (ho : OpBOk o) (hK : o.K = 2) (vs va vb v0 v1 : Nat) : Spec Tryz.prog 28 [.ref 3 v0 6 0 0, .ref 0 vs 3 0 0, .agg (opB 0 o)] [⟨vs, .obj [.ref 3 v0 6 0 0, .ref 1 va 3 0 0, .ref 2 vb 3 0 0]⟩, ⟨va, .obj [.ref 3 v0 6 0 0, .val (.int .i64 ((0 : Nat) : Int)), .val (.int .i64 (c : Int))]⟩, ⟨vb, .obj [.ref 3 v0 6 0 0, .val (.int .i64 (c : Int)), .val (.int .i64 (c : Int))]⟩, ⟨v0, .obj [.own 4 v1 1 0 s.l.length, .val (.int .i64 (s.k : Int)), .val (.int .i64 s.ar), .val (.int .i64 s.pt), .val (.bool s.dd), .val (.int .i64 s.wr)]⟩, ⟨v1, .bytes s.l⟩] (pms (.tup [.agg [.val (.slice none 0 0), .val (.slice none 0 0), .val (.int .i64 0), .val (.bool false), .val (.int .i64 (s.set c o.key o.val).1)], .ref 0 vs 3 0 0, .val (.bool true)]) [⟨vs, .obj [.ref 3 v0 6 0 0, .ref 1 va 3 0 0, .ref 2 vb 3 0 0]⟩, ⟨va, .obj [.ref 3 v0 6 0 0, .val (.int .i64 ((0 : Nat) : Int)), .val (.int .i64 (c : Int))]⟩, ⟨vb, .obj [.ref 3 v0 6 0 0, .val (.int .i64 (c : Int)), .val (.int .i64 (c : Int))]⟩, ⟨v0, .obj [.own 4 v1 1 0 (s.set c o.key o.val).2.l.length, .val (.int .i64 ((s.set c o.key o.val).2.k : Int)), .val (.int .i64 (s.set c o.key o.val).2.ar), .val (.int .i64 (s.set c o.key o.val).2.pt), .val (.bool (s.set c o.key o.val).2.dd), .val (.int .i64 (s.set c o.key o.val).2.wr)]⟩, ⟨v1, .bytes (s.set c o.key o.val).2.l⟩] []) := by
 (
 obtain ⟨K, m, q, key, val⟩ := o
 have hk := ho.key
 have hv := ho.val
 simp only at hk hv hK
 subst hK
 refine spec_entry tbOk Tryz.func28 rfl Tryz.ntmps28 Tryz.results28 ?_
 unfold opB
 simp only
 refine gg (k := ?_)
 refine cmks (twin9_vc 0 key hk) Tryz.call23 0 [] [] [] ?_
 refine gg (k := ?_)
 refine cmks (twin9_raw 0 val hv) Tryz.call23 0 [0, 0, 0, 34] [0, 0, 0, 1] [3] ?_
 refine gg (k := ?_))
 refine cmks (set_ov s c g hW pa pb hd key val val.length rfl hk hv vs va vb v0 v1 3) Tryz.call22 6 [0, 1, 2, 3, 4, 34] [0, 0, 0, 0, 0, 0] [] ?_
 refine gg (k := ?_)
 (
 refine cmks (same_vc 0 0 key key hk) Tryz.call19 0 [] [] [] ?_
 rw [decide_eq_true (rfl : key = key)]
 refine gg (k := ?_)
 refine cmks (same_own_bs9 val val.length rfl hv 3 0) Tryz.call19 1 [34] [0] [] ?_
 refine gg (k := ?_)
 (refine sts (k := ?_))
 conv => whnf
 refine loop_at (fun y : Nat × List UInt8 => y.1 ≤ val.length ∧ y.2.length = val.length) (fun y => val.length - y.1) 5 [23, 153, 154, 155, 156, 157, 158, 159, 160, 161] (fun y => [(23, .val (.int .i64 (y.1 : Int)))]) (fun y => [(34, ⟨3, .bytes y.2⟩)]) (0, val) ⟨Nat.zero_le _, rfl⟩ ?_ ?_ ?_
 ·exact no_implicit_lambda% ten
 ·exact no_implicit_lambda% hen
 ·rintro ⟨i, w⟩ u ⟨u1, u2⟩
  simp only at u1 u2
  refine glp (k := ?_)
  refine gg (k := ?_)
  refine ⟨fun h => ?_, fun h => ?_⟩
  ·have hlt : i < val.length := by have := of_decide_eq_true h; omega
   refine gg (k := ?_)
   refine back_at (i + 1, w.set (0 + (i : Int).toNat) (UInt8.ofNat (Int.toNat 85))) ⟨hlt, by simp [u2]⟩ (by show val.length - (i + 1) < val.length - i; omega) ?_ ?_
   ·exact no_implicit_lambda% ten
   ·exact no_implicit_lambda% hen
  ·refine gg (k := ?_)
   exact ⟨_, rfl, rfl, trivial⟩)
theorem does9_del {W : Int} {n k : Nat} (s : FlS) (c : Nat) (g : Goes W n k s) (hW : W ≤ 1000000000000000) (pa : Lies n k 0 c) (pb : Lies n k c c) (o : OpB) (ho : OpBOk o) (hK : o.K = 3) (vs va vb v0 v1 : Nat) : Spec Tryz.prog 28 [.ref 3 v0 6 0 0, .ref 0 vs 3 0 0, .agg (opB 0 o)] [⟨vs, .obj [.ref 3 v0 6 0 0, .ref 1 va 3 0 0, .ref 2 vb 3 0 0]⟩, ⟨va, .obj [.ref 3 v0 6 0 0, .val (.int .i64 ((0 : Nat) : Int)), .val (.int .i64 (c : Int))]⟩, ⟨vb, .obj [.ref 3 v0 6 0 0, .val (.int .i64 (c : Int)), .val (.int .i64 (c : Int))]⟩, ⟨v0, .obj [.own 4 v1 1 0 s.l.length, .val (.int .i64 (s.k : Int)), .val (.int .i64 s.ar), .val (.int .i64 s.pt), .val (.bool s.dd), .val (.int .i64 s.wr)]⟩, ⟨v1, .bytes s.l⟩] (pms (.tup [.agg [.val (.slice none 0 0), .val (.slice none 0 0), .val (.int .i64 0), .val (.bool false), .val (.int .i64 (s.del c o.key).1)], .ref 0 vs 3 0 0, .val (.bool true)]) [⟨vs, .obj [.ref 3 v0 6 0 0, .ref 1 va 3 0 0, .ref 2 vb 3 0 0]⟩, ⟨va, .obj [.ref 3 v0 6 0 0, .val (.int .i64 ((0 : Nat) : Int)), .val (.int .i64 (c : Int))]⟩, ⟨vb, .obj [.ref 3 v0 6 0 0, .val (.int .i64 (c : Int)), .val (.int .i64 (c : Int))]⟩, ⟨v0, .obj [.own 4 v1 1 0 (s.del c o.key).2.l.length, .val (.int .i64 ((s.del c o.key).2.k : Int)), .val (.int .i64 (s.del c o.key).2.ar), .val (.int .i64 (s.del c o.key).2.pt), .val (.bool (s.del c o.key).2.dd), .val (.int .i64 (s.del c o.key).2.wr)]⟩, ⟨v1, .bytes (s.del c o.key).2.l⟩] []) := by
 (
 obtain ⟨K, m, q, key, val⟩ := o
 have hk := ho.key
 have hv := ho.val
 simp only at hk hv hK
 subst hK
 refine spec_entry tbOk Tryz.func28 rfl Tryz.ntmps28 Tryz.results28 ?_
 unfold opB
 simp only
 refine gg (k := ?_)
 refine cmks (twin9_vc 0 key hk) Tryz.call23 0 [] [] [] ?_
 refine gg (k := ?_)
 refine cmks (twin9_raw 0 val hv) Tryz.call23 0 [0, 0, 0, 34] [0, 0, 0, 1] [3] ?_
 refine gg (k := ?_))
 refine cmks (dels_vc s c g hW pa pb 0 key vs va vb v0 v1) Tryz.call25 5 [0, 1, 2, 3, 4] [0, 0, 0, 0, 0] [] ?_
 refine gg (k := ?_)
 (
 refine cmks (same_vc 0 0 key key hk) Tryz.call19 0 [] [] [] ?_
 rw [decide_eq_true (rfl : key = key)]
 refine gg (k := ?_)
 refine cmks (same_own_bs9 val val.length rfl hv 3 0) Tryz.call19 1 [34] [0] [] ?_
 refine gg (k := ?_)
 (refine sts (k := ?_))
 conv => whnf
 refine loop_at (fun y : Nat × List UInt8 => y.1 ≤ val.length ∧ y.2.length = val.length) (fun y => val.length - y.1) 5 [23, 153, 154, 155, 156, 157, 158, 159, 160, 161] (fun y => [(23, .val (.int .i64 (y.1 : Int)))]) (fun y => [(34, ⟨3, .bytes y.2⟩)]) (0, val) ⟨Nat.zero_le _, rfl⟩ ?_ ?_ ?_
 ·exact no_implicit_lambda% ten
 ·exact no_implicit_lambda% hen
 ·rintro ⟨i, w⟩ u ⟨u1, u2⟩
  simp only at u1 u2
  refine glp (k := ?_)
  refine gg (k := ?_)
  refine ⟨fun h => ?_, fun h => ?_⟩
  ·have hlt : i < val.length := by have := of_decide_eq_true h; omega
   refine gg (k := ?_)
   refine back_at (i + 1, w.set (0 + (i : Int).toNat) (UInt8.ofNat (Int.toNat 85))) ⟨hlt, by simp [u2]⟩ (by show val.length - (i + 1) < val.length - i; omega) ?_ ?_
   ·exact no_implicit_lambda% ten
   ·exact no_implicit_lambda% hen
  ·refine gg (k := ?_)
   exact ⟨_, rfl, rfl, trivial⟩)
end Go.Proofs.YtpbpiehcchannaaGreatDoor
