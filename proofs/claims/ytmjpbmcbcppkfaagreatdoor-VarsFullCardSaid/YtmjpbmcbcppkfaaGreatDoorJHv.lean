/- Walks of nvram: Set and Get with slices of their own. What a store's calls keep of a flash; works of lintellaw09. Walks of nvram: what a Get tells of a store that is a map. Conditions: the premises of each law. -/
import Derived.Test.YtmjpbmcbcppkfaaGreatDoorJHw
import Derived.Test.YtmjpbmcbcppkfaaGreatDoorJHe
import Derived.Test.YtmjpbmcbcppkfaaGreatDoorJHp
namespace Go.Proofs.YtmjpbmcbcppkfaaGreatDoor
open Go.RowKit
set_option linter.unusedVariables false
set_option linter.unusedSimpArgs false
set_option maxRecDepth 100000
set_option maxHeartbeats 1500000
theorem set_vc {W : Int} {n k : Nat} (s : FlS) (c : Nat) (g : Goes W n k s) (hW : W ≤ 1000000000000000) (pa : Lies n k 0 c) (pb : Lies n k c c) (hd : s.dd = false) (z z' : Nat) (key val : List UInt8) (hkl : key.length ≤ 140737488355328) (hvl : val.length ≤ 140737488355328) (vs va vb v0 v1 : Nat) : Spec Tryz.prog 97 [.ref 0 vs 3 0 0, .bs z key, .bs z' val] [⟨vs, .obj [.ref 3 v0 6 0 0, .ref 1 va 3 0 0, .ref 2 vb 3 0 0]⟩, ⟨va, .obj [.ref 3 v0 6 0 0, .val (.int .i64 ((0 : Nat) : Int)), .val (.int .i64 (c : Int))]⟩, ⟨vb, .obj [.ref 3 v0 6 0 0, .val (.int .i64 (c : Int)), .val (.int .i64 (c : Int))]⟩, ⟨v0, .obj [.own 4 v1 1 0 s.l.length, .val (.int .i64 (s.k : Int)), .val (.int .i64 s.ar), .val (.int .i64 s.pt), .val (.bool s.dd), .val (.int .i64 s.wr)]⟩, ⟨v1, .bytes s.l⟩]
   (pms (.val (.int .i64 (s.set c key val).1)) [⟨vs, .obj [.ref 3 v0 6 0 0, .ref 1 va 3 0 0, .ref 2 vb 3 0 0]⟩, ⟨va, .obj [.ref 3 v0 6 0 0, .val (.int .i64 ((0 : Nat) : Int)), .val (.int .i64 (c : Int))]⟩, ⟨vb, .obj [.ref 3 v0 6 0 0, .val (.int .i64 (c : Int)), .val (.int .i64 (c : Int))]⟩, ⟨v0, .obj [.own 4 v1 1 0 (s.set c key val).2.l.length, .val (.int .i64 ((s.set c key val).2.k : Int)), .val (.int .i64 (s.set c key val).2.ar), .val (.int .i64 (s.set c key val).2.pt), .val (.bool (s.set c key val).2.dd), .val (.int .i64 (s.set c key val).2.wr)]⟩, ⟨v1, .bytes (s.set c key val).2.l⟩] []) := by
 rcases cnt01 s c with hi | hi
 ·exact set0 s c g hW pa pb hd hi z z' key val hkl hvl vs va vb v0 v1
 ·exact set1 s c g hW pa pb hd hi z z' key val hkl hvl vs va vb v0 v1
theorem set_own {W : Int} {n k : Nat} (s : FlS) (c : Nat) (g : Goes W n k s) (hW : W ≤ 1000000000000000) (pa : Lies n k 0 c) (pb : Lies n k c c) (hd : s.dd = false) (key val : List UInt8) (kn vn : Nat) (hkn : kn = key.length) (hvn : vn = val.length) (hkl : key.length ≤ 140737488355328) (hvl : val.length ≤ 140737488355328) (vs va vb v0 v1 v2 v3 : Nat) : Spec Tryz.prog 97 [.ref 0 vs 3 0 0, .own 5 v2 1 0 kn, .own 6 v3 1 0 vn] [⟨vs, .obj [.ref 3 v0 6 0 0, .ref 1 va 3 0 0, .ref 2 vb 3 0 0]⟩, ⟨va, .obj [.ref 3 v0 6 0 0, .val (.int .i64 ((0 : Nat) : Int)), .val (.int .i64 (c : Int))]⟩, ⟨vb, .obj [.ref 3 v0 6 0 0, .val (.int .i64 (c : Int)), .val (.int .i64 (c : Int))]⟩, ⟨v0, .obj [.own 4 v1 1 0 s.l.length, .val (.int .i64 (s.k : Int)), .val (.int .i64 s.ar), .val (.int .i64 s.pt), .val (.bool s.dd), .val (.int .i64 s.wr)]⟩, ⟨v1, .bytes s.l⟩, ⟨v2, .bytes key⟩, ⟨v3, .bytes val⟩]
   (pms (.val (.int .i64 (s.set c key val).1)) [⟨vs, .obj [.ref 3 v0 6 0 0, .ref 1 va 3 0 0, .ref 2 vb 3 0 0]⟩, ⟨va, .obj [.ref 3 v0 6 0 0, .val (.int .i64 ((0 : Nat) : Int)), .val (.int .i64 (c : Int))]⟩, ⟨vb, .obj [.ref 3 v0 6 0 0, .val (.int .i64 (c : Int)), .val (.int .i64 (c : Int))]⟩, ⟨v0, .obj [.own 4 v1 1 0 (s.set c key val).2.l.length, .val (.int .i64 ((s.set c key val).2.k : Int)), .val (.int .i64 (s.set c key val).2.ar), .val (.int .i64 (s.set c key val).2.pt), .val (.bool (s.set c key val).2.dd), .val (.int .i64 (s.set c key val).2.wr)]⟩, ⟨v1, .bytes (s.set c key val).2.l⟩, ⟨v2, .bytes key⟩, ⟨v3, .bytes val⟩] []) := by
 subst hkn hvn
 have e := whole key
 have e' := whole val
 have h := spec_rx (set_vc s c g hW pa pb hd 0 0 ((key.drop 0).take key.length) ((val.drop 0).take val.length) (by rw [e]; exact hkl) (by rw [e']; exact hvl) vs va vb v0 v1) (R := [⟨v2, .bytes key⟩, ⟨v3, .bytes val⟩]) (args := [.ref 0 vs 3 0 0, .own 5 v2 1 0 key.length, .own 6 v3 1 0 val.length])
  trivial ⟨⟨trivial, trivial, trivial, trivial⟩, ⟨trivial, trivial, trivial, trivial⟩, ⟨trivial, trivial, trivial, trivial⟩, ⟨trivial, trivial, trivial, trivial, trivial, trivial, trivial⟩, trivial, trivial⟩ ⟨⟨(by decide : 3 < 5), (by decide : 1 < 5), (by decide : 2 < 5), trivial⟩, ⟨(by decide : 3 < 5), trivial, trivial, trivial⟩, ⟨(by decide : 3 < 5), trivial, trivial, trivial⟩, ⟨(by decide : 4 < 5), trivial, trivial, trivial, trivial, trivial, trivial⟩, trivial, trivial⟩ ⟨⟨trivial, trivial, trivial, trivial⟩, ⟨trivial, trivial, trivial, trivial⟩, ⟨trivial, trivial, trivial, trivial⟩, ⟨trivial, trivial, trivial, trivial, trivial, trivial, trivial⟩, trivial, trivial⟩ rfl trivial trivial
  (asX_cons (aX_same trivial (by decide : 0 < 5)) (asX_cons (aX_own (q := 0) (l := key) rfl (by omega)) (asX_cons (aX_own (q := 1) (l := val) rfl (by omega)) asX_nil)))
 rw [e, e'] at h
 exact h
theorem getS_own0 {W : Int} {n k : Nat} (s : FlS) (c : Nat) (g : Goes W n k s) (pa : Lies n k 0 c) (pb : Lies n k c c) (hd : s.dd = false) (hi : (s.cnt c).1 = 0) {l : List Rc} {e : Nat} {b : Bool} (hS : s.scan 0 c = (l, e, b)) (key : List UInt8) (j : Nat) (d : Rc) (hj : l[j]? = some d) (hk : lastK (l.map rkOf) key = (j : Int)) (kn : Nat) (hkn : kn = key.length) (vs va vb v0 v1 v2 : Nat) : Spec Tryz.prog 39 [.ref 0 vs 3 0 0, .own 5 v2 1 0 kn] [⟨vs, .obj [.ref 3 v0 6 0 0, .ref 1 va 3 0 0, .ref 2 vb 3 0 0]⟩, ⟨va, .obj [.ref 3 v0 6 0 0, .val (.int .i64 ((0 : Nat) : Int)), .val (.int .i64 (c : Int))]⟩, ⟨vb, .obj [.ref 3 v0 6 0 0, .val (.int .i64 (c : Int)), .val (.int .i64 (c : Int))]⟩, ⟨v0, .obj [.own 4 v1 1 0 s.l.length, .val (.int .i64 (s.k : Int)), .val (.int .i64 s.ar), .val (.int .i64 s.pt), .val (.bool s.dd), .val (.int .i64 s.wr)]⟩, ⟨v1, .bytes s.l⟩, ⟨v2, .bytes key⟩]
   (pms (.tup [.pl 22 4 (2 * j + 1) 0 d.val.length, .val (.bool true), .val (.int .i64 0)]) [⟨vs, .obj [.ref 3 v0 6 0 0, .ref 1 va 3 0 0, .ref 2 vb 3 0 0]⟩, ⟨va, .obj [.ref 3 v0 6 0 0, .val (.int .i64 ((0 : Nat) : Int)), .val (.int .i64 (c : Int))]⟩, ⟨vb, .obj [.ref 3 v0 6 0 0, .val (.int .i64 (c : Int)), .val (.int .i64 (c : Int))]⟩, ⟨v0, .obj [.own 4 v1 1 0 s.l.length, .val (.int .i64 (s.k : Int)), .val (.int .i64 s.ar), .val (.int .i64 s.pt), .val (.bool s.dd), .val (.int .i64 s.wr)]⟩, ⟨v1, .bytes s.l⟩, ⟨v2, .bytes key⟩] [(22, ⟨4, .pool (poolOf l)⟩)]) := by
 subst hkn
 have e' := whole key
 have h := spec_rx (getS0 s c g pa pb hd hi hS 0 ((key.drop 0).take key.length) j d hj (by rw [e']; exact hk) vs va vb v0 v1) (R := [⟨v2, .bytes key⟩]) (args := [.ref 0 vs 3 0 0, .own 5 v2 1 0 key.length])
  ⟨trivial, trivial, trivial, trivial⟩ ⟨⟨trivial, trivial, trivial, trivial⟩, ⟨trivial, trivial, trivial, trivial⟩, ⟨trivial, trivial, trivial, trivial⟩, ⟨trivial, trivial, trivial, trivial, trivial, trivial, trivial⟩, trivial, trivial⟩ ⟨⟨(by decide : 3 < 5), (by decide : 1 < 5), (by decide : 2 < 5), trivial⟩, ⟨(by decide : 3 < 5), trivial, trivial, trivial⟩, ⟨(by decide : 3 < 5), trivial, trivial, trivial⟩, ⟨(by decide : 4 < 5), trivial, trivial, trivial, trivial, trivial, trivial⟩, trivial, trivial⟩ ⟨⟨trivial, trivial, trivial, trivial⟩, ⟨trivial, trivial, trivial, trivial⟩, ⟨trivial, trivial, trivial, trivial⟩, ⟨trivial, trivial, trivial, trivial, trivial, trivial, trivial⟩, trivial, trivial⟩ rfl ⟨trivial, trivial⟩ (by simp [geM])
  (asX_cons (aX_same trivial (by decide : 0 < 5)) (asX_cons (aX_own (q := 0) (l := key) rfl (by omega)) asX_nil))
 exact h
theorem getS_own1 {W : Int} {n k : Nat} (s : FlS) (c : Nat) (g : Goes W n k s) (pa : Lies n k 0 c) (pb : Lies n k c c) (hd : s.dd = false) (hi : (s.cnt c).1 = 1) {l : List Rc} {e : Nat} {b : Bool} (hS : s.scan c c = (l, e, b)) (key : List UInt8) (j : Nat) (d : Rc) (hj : l[j]? = some d) (hk : lastK (l.map rkOf) key = (j : Int)) (kn : Nat) (hkn : kn = key.length) (vs va vb v0 v1 v2 : Nat) : Spec Tryz.prog 39 [.ref 0 vs 3 0 0, .own 5 v2 1 0 kn] [⟨vs, .obj [.ref 3 v0 6 0 0, .ref 1 va 3 0 0, .ref 2 vb 3 0 0]⟩, ⟨va, .obj [.ref 3 v0 6 0 0, .val (.int .i64 ((0 : Nat) : Int)), .val (.int .i64 (c : Int))]⟩, ⟨vb, .obj [.ref 3 v0 6 0 0, .val (.int .i64 (c : Int)), .val (.int .i64 (c : Int))]⟩, ⟨v0, .obj [.own 4 v1 1 0 s.l.length, .val (.int .i64 (s.k : Int)), .val (.int .i64 s.ar), .val (.int .i64 s.pt), .val (.bool s.dd), .val (.int .i64 s.wr)]⟩, ⟨v1, .bytes s.l⟩, ⟨v2, .bytes key⟩]
   (pms (.tup [.pl 22 4 (2 * j + 1) 0 d.val.length, .val (.bool true), .val (.int .i64 0)]) [⟨vs, .obj [.ref 3 v0 6 0 0, .ref 1 va 3 0 0, .ref 2 vb 3 0 0]⟩, ⟨va, .obj [.ref 3 v0 6 0 0, .val (.int .i64 ((0 : Nat) : Int)), .val (.int .i64 (c : Int))]⟩, ⟨vb, .obj [.ref 3 v0 6 0 0, .val (.int .i64 (c : Int)), .val (.int .i64 (c : Int))]⟩, ⟨v0, .obj [.own 4 v1 1 0 s.l.length, .val (.int .i64 (s.k : Int)), .val (.int .i64 s.ar), .val (.int .i64 s.pt), .val (.bool s.dd), .val (.int .i64 s.wr)]⟩, ⟨v1, .bytes s.l⟩, ⟨v2, .bytes key⟩] [(22, ⟨4, .pool (poolOf l)⟩)]) := by
 subst hkn
 have e' := whole key
 have h := spec_rx (getS1 s c g pa pb hd hi hS 0 ((key.drop 0).take key.length) j d hj (by rw [e']; exact hk) vs va vb v0 v1) (R := [⟨v2, .bytes key⟩]) (args := [.ref 0 vs 3 0 0, .own 5 v2 1 0 key.length])
  ⟨trivial, trivial, trivial, trivial⟩ ⟨⟨trivial, trivial, trivial, trivial⟩, ⟨trivial, trivial, trivial, trivial⟩, ⟨trivial, trivial, trivial, trivial⟩, ⟨trivial, trivial, trivial, trivial, trivial, trivial, trivial⟩, trivial, trivial⟩ ⟨⟨(by decide : 3 < 5), (by decide : 1 < 5), (by decide : 2 < 5), trivial⟩, ⟨(by decide : 3 < 5), trivial, trivial, trivial⟩, ⟨(by decide : 3 < 5), trivial, trivial, trivial⟩, ⟨(by decide : 4 < 5), trivial, trivial, trivial, trivial, trivial, trivial⟩, trivial, trivial⟩ ⟨⟨trivial, trivial, trivial, trivial⟩, ⟨trivial, trivial, trivial, trivial⟩, ⟨trivial, trivial, trivial, trivial⟩, ⟨trivial, trivial, trivial, trivial, trivial, trivial, trivial⟩, trivial, trivial⟩ rfl ⟨trivial, trivial⟩ (by simp [geM])
  (asX_cons (aX_same trivial (by decide : 0 < 5)) (asX_cons (aX_own (q := 0) (l := key) rfl (by omega)) asX_nil))
 exact h
end Go.Proofs.YtmjpbmcbcppkfaaGreatDoor
namespace Go.Proofs.YtmjpbmcbcppkfaaGreatDoor
open Go.RowKit
set_option linter.unusedVariables false
set_option linter.unusedSimpArgs false
set_option maxRecDepth 100000
set_option maxHeartbeats 1500000
theorem Goes.put {B : Int} {n k : Nat} {s : FlS} (g : Goes B n k s) (c : Nat) (key val : List UInt8) : Goes (B + 65805) n k (s.put c key val).2 := by
 unfold FlS.put
 have ga := g.add ((s.cnt c).1 * c) c key val
 split
 ·split
  ·exact (ga.kill _ _ _).mono (by omega)
  ·exact ga.mono (by omega)
 ·exact ga.mono (by omega)
theorem recK_few {B : Int} {n k : Nat} {s : FlS} (g : Goes B n k s) {c : Nat} (pa : Lies n k 0 c) (pb : Lies n k c c) : (keptK (s.recK c)).length ≤ 4194304 := by
 have h1 := (keptK_sub (s.recK c)).length_le
 have h2 : (s.recK c).length ≤ 4194304 := by
  unfold FlS.recK FlS.recs
  rw [List.length_map]
  rcases cnt01 s c with hi | hi
  ·rw [hi, Nat.zero_mul]
   obtain ⟨l, e, b, hS⟩ : ∃ l e b, s.scan 0 c = (l, e, b) := ⟨_, _, _, rfl⟩
   have := look_few g pa hS
   rw [hS]; exact this
  ·rw [hi, Nat.one_mul]
   obtain ⟨l, e, b, hS⟩ : ∃ l e b, s.scan c c = (l, e, b) := ⟨_, _, _, rfl⟩
   have := look_few g pb hS
   rw [hS]; exact this
 omega
theorem Goes.set {B : Int} {n k : Nat} {s : FlS} (g : Goes B n k s) {c : Nat} (pa : Lies n k 0 c) (pb : Lies n k c c) (key val : List UInt8) : Goes (B + 300000000000) n k (s.set c key val).2 := by
 have hf := recK_few g pa pb
 have hc := pa.ac.2
 unfold FlS.set
 split
 ·exact g.mono (by omega)
 split
 ·exact g.mono (by omega)
 split
 ·exact g.mono (by omega)
 split
 ·have gc := g.copy c (keptK (s.recK c))
  split
  ·split
   ·exact gc.mono (by omega)
   ·exact (gc.put c key val).mono (by omega)
  ·exact gc.mono (by omega)
 ·exact (g.put c key val).mono (by omega)
end Go.Proofs.YtmjpbmcbcppkfaaGreatDoor
namespace Go.Proofs.YtmjpbmcbcppkfaaGreatDoor
open Go.RowKit
set_option linter.unusedVariables false
set_option linter.unusedSimpArgs false
set_option maxRecDepth 100000
set_option maxHeartbeats 1500000
end Go.Proofs.YtmjpbmcbcppkfaaGreatDoor
