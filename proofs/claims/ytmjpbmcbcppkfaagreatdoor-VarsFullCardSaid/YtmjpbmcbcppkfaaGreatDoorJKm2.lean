/- Walks of keep: Put that is refused, Drop, Mark, SetMark. Conditions: none. -/
import Derived.Test.YtmjpbmcbcppkfaaGreatDoorJKi
import Derived.Test.YtmjpbmcbcppkfaaGreatDoorJHk
namespace Go.Proofs.YtmjpbmcbcppkfaaGreatDoor
open Go.RowKit
set_option linter.unusedVariables false
set_option linter.unusedSimpArgs false
set_option maxRecDepth 100000
set_option maxHeartbeats 1500000
theorem tnil_eq (t : Tm) : eqVs [Value.int .u16 t.y, .int .u8 t.m, .int .u8 t.d, .int .u8 t.h, .int .u8 t.mi, .int .u8 t.s] [Value.int .u16 0, .int .u8 0, .int .u8 0, .int .u8 0, .int .u8 0, .int .u8 0] = t.nil := by
 simp only [eqVs, eqV, Tm.nil, Bool.and_true, Bool.and_assoc]
theorem kput_bad (s : FlS) (c : Nat) (v : VarV) (hv : v.Ok) (hP : putOk v = false) (z : Nat) (vk vs va vb v0 v1 : Nat) : Spec Tryz.prog 61 [.ref 0 vk 1 0 0, .agg (varA (.bs z v.d) v)] [⟨vk, .obj [.ref 1 vs 3 0 0]⟩, ⟨vs, .obj [.ref 4 v0 6 0 0, .ref 2 va 3 0 0, .ref 3 vb 3 0 0]⟩, ⟨va, .obj [.ref 4 v0 6 0 0, .val (.int .i64 ((0 : Nat) : Int)), .val (.int .i64 (c : Int))]⟩, ⟨vb, .obj [.ref 4 v0 6 0 0, .val (.int .i64 (c : Int)), .val (.int .i64 (c : Int))]⟩, ⟨v0, .obj [.own 5 v1 1 0 s.l.length, .val (.int .i64 (s.k : Int)), .val (.int .i64 s.ar), .val (.int .i64 s.pt), .val (.bool s.dd), .val (.int .i64 s.wr)]⟩, ⟨v1, .bytes s.l⟩]
   (pms (.val (.int .i64 1)) [⟨vk, .obj [.ref 1 vs 3 0 0]⟩, ⟨vs, .obj [.ref 4 v0 6 0 0, .ref 2 va 3 0 0, .ref 3 vb 3 0 0]⟩, ⟨va, .obj [.ref 4 v0 6 0 0, .val (.int .i64 ((0 : Nat) : Int)), .val (.int .i64 (c : Int))]⟩, ⟨vb, .obj [.ref 4 v0 6 0 0, .val (.int .i64 (c : Int)), .val (.int .i64 (c : Int))]⟩, ⟨v0, .obj [.own 5 v1 1 0 s.l.length, .val (.int .i64 (s.k : Int)), .val (.int .i64 s.ar), .val (.int .i64 s.pt), .val (.bool s.dd), .val (.int .i64 s.wr)]⟩, ⟨v1, .bytes s.l⟩] []) := by
 obtain ⟨⟨a1, a2⟩, ⟨b1, b2⟩, ⟨c1, c2⟩, ⟨d1, d2⟩, ⟨e1, e2⟩, f1, f2⟩ := id hv.t
 cases hr : rightN v.nm with
 | false =>
  have hKy := key_no v.nm hv.nm v.g hr
  (
 refine spec_entry tbOk Tryz.func61 rfl Tryz.ntmps61 Tryz.results61 ?_
 unfold varA
 refine gg (k := ?_))
  refine cdet (hKy) Tryz.call38 (hon := rowu) [] ?_
  refine ggO (k := ?_)
  intro _
  refine ggO (k := ?_)
  exact ⟨_, rfl, rfl, trivial⟩
 | true =>
  have hKy := key_vc v.nm hv.nm v.g hv.g hr
  have hT := tnil_eq v.t
  (
 refine spec_entry tbOk Tryz.func61 rfl Tryz.ntmps61 Tryz.results61 ?_
 unfold varA
 refine gg (k := ?_))
  refine cmks (hKy) Tryz.call38 0 [0, 0, 0, 20] [0, 0, 0, 1] [3] ?_
  iterate 14 refine gos (k := ?_)
  rw [show (!decide ((0 : Int) = 0)) = false from rfl]
  refine ggO (k := ?_)
  rw [hT]
  conv => whnf
  cases hz : v.t.nil with
  | true =>
   refine And.intro (fun h => absurd h.2 (by decide)) (fun h => ?_)
   refine ggO (k := ?_)
   have hd : decide ((65484 : Int) < (v.d.length : Int)) = true := by
    unfold putOk at hP
    rw [hr, hz, Bool.or_true, Bool.true_and, Bool.true_and] at hP
    have := of_decide_eq_false hP
    exact decide_eq_true (by omega)
   rw [hd]
   refine ggO (k := ?_)
   exact ⟨_, rfl, rfl, trivial⟩
  | false =>
   refine And.intro (fun h => And.intro ⟨trivial, h, trivial⟩ ?_) (fun h => absurd ⟨rfl, rfl⟩ h)
   refine cdet (tright_vc v.t hv.t) Tryz.call96 (hon := ⟨⟨trivial, trivial, trivial, trivial, trivial, trivial, trivial⟩, trivial⟩) [] ?_
   cases hR : v.t.right with
   | false =>
    refine ggO (k := ?_)
    refine And.intro (fun _ => ?_) (fun h => absurd h (by simp))
    refine ggO (k := ?_)
    exact ⟨_, rfl, rfl, trivial⟩
   | true =>
    refine ggO (k := ?_)
    have hd : decide ((65484 : Int) < (v.d.length : Int)) = true := by
     unfold putOk at hP
     rw [hr, hR, Bool.true_or, Bool.true_and, Bool.true_and] at hP
     have := of_decide_eq_false hP
     exact decide_eq_true (by omega)
    rw [hd]
    refine ggO (k := ?_)
    exact ⟨_, rfl, rfl, trivial⟩
def markK : List UInt8 := [109, 97, 114, 107]
theorem kmark_no {W : Int} {n k : Nat} (s : FlS) (c : Nat) {M : List RK} (m : LK s c M) (go : Goes W n k s) (pa : Lies n k 0 c) (pb : Lies n k c c) (hm : ∀ r ∈ M, r.key ≠ markK) (vk vs va vb v0 v1 : Nat) : Spec Tryz.prog 32 [.ref 0 vk 1 0 0] [⟨vk, .obj [.ref 1 vs 3 0 0]⟩, ⟨vs, .obj [.ref 4 v0 6 0 0, .ref 2 va 3 0 0, .ref 3 vb 3 0 0]⟩, ⟨va, .obj [.ref 4 v0 6 0 0, .val (.int .i64 ((0 : Nat) : Int)), .val (.int .i64 (c : Int))]⟩, ⟨vb, .obj [.ref 4 v0 6 0 0, .val (.int .i64 (c : Int)), .val (.int .i64 (c : Int))]⟩, ⟨v0, .obj [.own 5 v1 1 0 s.l.length, .val (.int .i64 (s.k : Int)), .val (.int .i64 s.ar), .val (.int .i64 s.pt), .val (.bool s.dd), .val (.int .i64 s.wr)]⟩, ⟨v1, .bytes s.l⟩]
   (pms (.tup [.val (.int .u8 0), .val (.int .i64 0)]) [⟨vk, .obj [.ref 1 vs 3 0 0]⟩, ⟨vs, .obj [.ref 4 v0 6 0 0, .ref 2 va 3 0 0, .ref 3 vb 3 0 0]⟩, ⟨va, .obj [.ref 4 v0 6 0 0, .val (.int .i64 ((0 : Nat) : Int)), .val (.int .i64 (c : Int))]⟩, ⟨vb, .obj [.ref 4 v0 6 0 0, .val (.int .i64 (c : Int)), .val (.int .i64 (c : Int))]⟩, ⟨v0, .obj [.own 5 v1 1 0 s.l.length, .val (.int .i64 (s.k : Int)), .val (.int .i64 s.ar), .val (.int .i64 s.pt), .val (.bool s.dd), .val (.int .i64 s.wr)]⟩, ⟨v1, .bytes s.l⟩] []) := by
 have hG := getn_own s c m go pa pb markK hm 4 rfl vs va vb v0 v1 1
 clear m hm
 refine spec_entry tbOk Tryz.func32 rfl Tryz.ntmps32 Tryz.results32 ?_
 refine gg (k := ?_)
 refine cmks (hG) Tryz.call39 6 [1, 2, 3, 4, 5, 20] [0, 0, 0, 0, 0, 0] [] ?_
 refine gg (k := ?_)
 exact ⟨_, rfl, rfl, trivial⟩
end Go.Proofs.YtmjpbmcbcppkfaaGreatDoor
