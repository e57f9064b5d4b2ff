/- Walks of nvram: Set and Get with slices of their own. What a store's calls keep of a flash; works of lintellaw09. Walks of nvram: what a Get tells of a store that is a map. Conditions: the premises of each law. -/
import Derived.Test.YtpbpiehcchannaaGreatDoorJHw
import Derived.Test.YtpbpiehcchannaaGreatDoorJHe
import Derived.Test.YtpbpiehcchannaaGreatDoorJHp
namespace Go.Proofs.YtpbpiehcchannaaGreatDoor
set_option linter.unusedVariables false
set_option linter.unusedSimpArgs false
set_option maxRecDepth 100000
set_option maxHeartbeats 1500000
open Go.RowKit
theorem Qg {W : Int} {n k : Nat} (s : U) (c : Nat) (g : aw W n k s) (hW : W ≤ 1000000000000000) (pa : aA n k 0 c) (pb : aA n k c c) (hd : s.dd = false) (z z' : Nat) (key val : List UInt8) (bH : key.length ≤ 140737488355328) (dS : val.length ≤ 140737488355328) (vs va vb v0 v1 : Nat) : Spec Tryz.prog 22 [.ref 0 vs 3 0 0, .bs z key, .bs z' val] [⟨vs, .obj [.ref 3 v0 6 0 0, .ref 1 va 3 0 0, .ref 2 vb 3 0 0]⟩, ⟨va, .obj [.ref 3 v0 6 0 0, .val (.int .i64 ((0 : Nat) : Int)), .val (.int .i64 (c : Int))]⟩, ⟨vb, .obj [.ref 3 v0 6 0 0, .val (.int .i64 (c : Int)), .val (.int .i64 (c : Int))]⟩, ⟨v0, .obj [.own 4 v1 1 0 s.l.length, .val (.int .i64 (s.k : Int)), .val (.int .i64 s.ar), .val (.int .i64 s.pt), .val (.bool s.dd), .val (.int .i64 s.wr)]⟩, ⟨v1, .bytes s.l⟩]
   (ak (.val (.int .i64 (s.set c key val).1)) [⟨vs,.obj [.ref 3 v0 6 0 0,.ref 1 va 3 0 0,.ref 2 vb 3 0 0]⟩,⟨va,.obj [.ref 3 v0 6 0 0,.val (.int .i64 ((0:Nat):Int)),.val (.int .i64 (c:Int))]⟩,⟨vb,.obj [.ref 3 v0 6 0 0,.val (.int .i64 (c:Int)),.val (.int .i64 (c:Int))]⟩,⟨v0,.obj [.own 4 v1 1 0 (s.set c key val).2.l.length,.val (.int .i64 ((s.set c key val).2.k:Int)),.val (.int .i64 (s.set c key val).2.ar),.val (.int .i64 (s.set c key val).2.pt),.val (.bool (s.set c key val).2.dd),.val (.int .i64 (s.set c key val).2.wr)]⟩,⟨v1,.bytes (s.set c key val).2.l⟩] []):=by
 rcases pG s c with hi | hi
 ·exact O7 s c g hW pa pb hd hi z z' key val bH dS vs va vb v0 v1
 ·exact Pb s c g hW pa pb hd hi z z' key val bH dS vs va vb v0 v1
theorem Df {W : Int} {n k : Nat} (s : U) (c : Nat) (g : aw W n k s) (hW : W ≤ 1000000000000000) (pa : aA n k 0 c) (pb : aA n k c c) (hd : s.dd = false) (key val : List UInt8) (kn vn : Nat) (dH : kn = key.length) (vz : vn = val.length) (bH : key.length ≤ 140737488355328) (dS : val.length ≤ 140737488355328) (vs va vb v0 v1 v2 v3 : Nat) : Spec Tryz.prog 22 [.ref 0 vs 3 0 0, .own 5 v2 1 0 kn, .own 6 v3 1 0 vn] [⟨vs, .obj [.ref 3 v0 6 0 0, .ref 1 va 3 0 0, .ref 2 vb 3 0 0]⟩, ⟨va, .obj [.ref 3 v0 6 0 0, .val (.int .i64 ((0 : Nat) : Int)), .val (.int .i64 (c : Int))]⟩, ⟨vb, .obj [.ref 3 v0 6 0 0, .val (.int .i64 (c : Int)), .val (.int .i64 (c : Int))]⟩, ⟨v0, .obj [.own 4 v1 1 0 s.l.length, .val (.int .i64 (s.k : Int)), .val (.int .i64 s.ar), .val (.int .i64 s.pt), .val (.bool s.dd), .val (.int .i64 s.wr)]⟩, ⟨v1, .bytes s.l⟩, ⟨v2, .bytes key⟩, ⟨v3, .bytes val⟩]
   (ak (.val (.int .i64 (s.set c key val).1)) [⟨vs,.obj [.ref 3 v0 6 0 0,.ref 1 va 3 0 0,.ref 2 vb 3 0 0]⟩,⟨va,.obj [.ref 3 v0 6 0 0,.val (.int .i64 ((0:Nat):Int)),.val (.int .i64 (c:Int))]⟩,⟨vb,.obj [.ref 3 v0 6 0 0,.val (.int .i64 (c:Int)),.val (.int .i64 (c:Int))]⟩,⟨v0,.obj [.own 4 v1 1 0 (s.set c key val).2.l.length,.val (.int .i64 ((s.set c key val).2.k:Int)),.val (.int .i64 (s.set c key val).2.ar),.val (.int .i64 (s.set c key val).2.pt),.val (.bool (s.set c key val).2.dd),.val (.int .i64 (s.set c key val).2.wr)]⟩,⟨v1,.bytes (s.set c key val).2.l⟩,⟨v2,.bytes key⟩,⟨v3,.bytes val⟩] []):=by
 subst dH vz
 have e:=whole key
 have e':=whole val
 have h:=n9 (Qg s c g hW pa pb hd 0 0 ((key.drop 0).take key.length) ((val.drop 0).take val.length) (by rw[e];exact bH) (by rw[e'];exact dS) vs va vb v0 v1) (R:=[⟨v2,.bytes key⟩,⟨v3,.bytes val⟩]) (args:=[.ref 0 vs 3 0 0,.own 5 v2 1 0 key.length,.own 6 v3 1 0 val.length])
  trivial ⟨⟨trivial,trivial,trivial,trivial⟩,⟨trivial,trivial,trivial,trivial⟩,⟨trivial,trivial,trivial,trivial⟩,⟨trivial,trivial,trivial,trivial,trivial,trivial,trivial⟩,trivial,trivial⟩ ⟨⟨(by decide:3<5),(by decide:1<5),(by decide:2<5),trivial⟩,⟨(by decide:3<5),trivial,trivial,trivial⟩,⟨(by decide:3<5),trivial,trivial,trivial⟩,⟨(by decide:4<5),trivial,trivial,trivial,trivial,trivial,trivial⟩,trivial,trivial⟩ ⟨⟨trivial,trivial,trivial,trivial⟩,⟨trivial,trivial,trivial,trivial⟩,⟨trivial,trivial,trivial,trivial⟩,⟨trivial,trivial,trivial,trivial,trivial,trivial,trivial⟩,trivial,trivial⟩ rfl trivial trivial
  (fO (mq trivial (by decide:0<5)) (fO (oc (q:=0) (l:=key) rfl (by omega)) (fO (oc (q:=1) (l:=val) rfl (by omega)) mo)))
 rw[e,e'] at h
 exact h
theorem Qh {W : Int} {n k : Nat} (s : U) (c : Nat) (g : aw W n k s) (pa : aA n k 0 c) (pb : aA n k c c) (hd : s.dd = false) (hi : (s.a8 c).1 = 0) {l : List Rc} {e : Nat} {b : Bool} (hS : s.scan 0 c = (l, e, b)) (key : List UInt8) (j : Nat) (d : Rc) (hj : l[j]? = some d) (hk : aT (l.map aj) key = (j : Int)) (kn : Nat) (dH : kn = key.length) (vs va vb v0 v1 v2 : Nat) : Spec Tryz.prog 64 [.ref 0 vs 3 0 0, .own 5 v2 1 0 kn] [⟨vs, .obj [.ref 3 v0 6 0 0, .ref 1 va 3 0 0, .ref 2 vb 3 0 0]⟩, ⟨va, .obj [.ref 3 v0 6 0 0, .val (.int .i64 ((0 : Nat) : Int)), .val (.int .i64 (c : Int))]⟩, ⟨vb, .obj [.ref 3 v0 6 0 0, .val (.int .i64 (c : Int)), .val (.int .i64 (c : Int))]⟩, ⟨v0, .obj [.own 4 v1 1 0 s.l.length, .val (.int .i64 (s.k : Int)), .val (.int .i64 s.ar), .val (.int .i64 s.pt), .val (.bool s.dd), .val (.int .i64 s.wr)]⟩, ⟨v1, .bytes s.l⟩, ⟨v2, .bytes key⟩]
   (ak (.aD [.pl 22 4 (2*j+1) 0 d.val.length,.val (.bool true),.val (.int .i64 0)]) [⟨vs,.obj [.ref 3 v0 6 0 0,.ref 1 va 3 0 0,.ref 2 vb 3 0 0]⟩,⟨va,.obj [.ref 3 v0 6 0 0,.val (.int .i64 ((0:Nat):Int)),.val (.int .i64 (c:Int))]⟩,⟨vb,.obj [.ref 3 v0 6 0 0,.val (.int .i64 (c:Int)),.val (.int .i64 (c:Int))]⟩,⟨v0,.obj [.own 4 v1 1 0 s.l.length,.val (.int .i64 (s.k:Int)),.val (.int .i64 s.ar),.val (.int .i64 s.pt),.val (.bool s.dd),.val (.int .i64 s.wr)]⟩,⟨v1,.bytes s.l⟩,⟨v2,.bytes key⟩] [(22,⟨4,.az (dI l)⟩)]):=by
 subst dH
 have e':=whole key
 have h:=n9 (O0 s c g pa pb hd hi hS 0 ((key.drop 0).take key.length) j d hj (by rw[e'];exact hk) vs va vb v0 v1) (R:=[⟨v2,.bytes key⟩]) (args:=[.ref 0 vs 3 0 0,.own 5 v2 1 0 key.length])
  ⟨trivial,trivial,trivial,trivial⟩ ⟨⟨trivial,trivial,trivial,trivial⟩,⟨trivial,trivial,trivial,trivial⟩,⟨trivial,trivial,trivial,trivial⟩,⟨trivial,trivial,trivial,trivial,trivial,trivial,trivial⟩,trivial,trivial⟩ ⟨⟨(by decide:3<5),(by decide:1<5),(by decide:2<5),trivial⟩,⟨(by decide:3<5),trivial,trivial,trivial⟩,⟨(by decide:3<5),trivial,trivial,trivial⟩,⟨(by decide:4<5),trivial,trivial,trivial,trivial,trivial,trivial⟩,trivial,trivial⟩ ⟨⟨trivial,trivial,trivial,trivial⟩,⟨trivial,trivial,trivial,trivial⟩,⟨trivial,trivial,trivial,trivial⟩,⟨trivial,trivial,trivial,trivial,trivial,trivial,trivial⟩,trivial,trivial⟩ rfl ⟨trivial,trivial⟩ (by simp[eM])
  (fO (mq trivial (by decide:0<5)) (fO (oc (q:=0) (l:=key) rfl (by omega)) mo))
 exact h
theorem Qi {W : Int} {n k : Nat} (s : U) (c : Nat) (g : aw W n k s) (pa : aA n k 0 c) (pb : aA n k c c) (hd : s.dd = false) (hi : (s.a8 c).1 = 1) {l : List Rc} {e : Nat} {b : Bool} (hS : s.scan c c = (l, e, b)) (key : List UInt8) (j : Nat) (d : Rc) (hj : l[j]? = some d) (hk : aT (l.map aj) key = (j : Int)) (kn : Nat) (dH : kn = key.length) (vs va vb v0 v1 v2 : Nat) : Spec Tryz.prog 64 [.ref 0 vs 3 0 0, .own 5 v2 1 0 kn] [⟨vs, .obj [.ref 3 v0 6 0 0, .ref 1 va 3 0 0, .ref 2 vb 3 0 0]⟩, ⟨va, .obj [.ref 3 v0 6 0 0, .val (.int .i64 ((0 : Nat) : Int)), .val (.int .i64 (c : Int))]⟩, ⟨vb, .obj [.ref 3 v0 6 0 0, .val (.int .i64 (c : Int)), .val (.int .i64 (c : Int))]⟩, ⟨v0, .obj [.own 4 v1 1 0 s.l.length, .val (.int .i64 (s.k : Int)), .val (.int .i64 s.ar), .val (.int .i64 s.pt), .val (.bool s.dd), .val (.int .i64 s.wr)]⟩, ⟨v1, .bytes s.l⟩, ⟨v2, .bytes key⟩]
   (ak (.aD [.pl 22 4 (2*j+1) 0 d.val.length,.val (.bool true),.val (.int .i64 0)]) [⟨vs,.obj [.ref 3 v0 6 0 0,.ref 1 va 3 0 0,.ref 2 vb 3 0 0]⟩,⟨va,.obj [.ref 3 v0 6 0 0,.val (.int .i64 ((0:Nat):Int)),.val (.int .i64 (c:Int))]⟩,⟨vb,.obj [.ref 3 v0 6 0 0,.val (.int .i64 (c:Int)),.val (.int .i64 (c:Int))]⟩,⟨v0,.obj [.own 4 v1 1 0 s.l.length,.val (.int .i64 (s.k:Int)),.val (.int .i64 s.ar),.val (.int .i64 s.pt),.val (.bool s.dd),.val (.int .i64 s.wr)]⟩,⟨v1,.bytes s.l⟩,⟨v2,.bytes key⟩] [(22,⟨4,.az (dI l)⟩)]):=by
 subst dH
 have e':=whole key
 have h:=n9 (O4 s c g pa pb hd hi hS 0 ((key.drop 0).take key.length) j d hj (by rw[e'];exact hk) vs va vb v0 v1) (R:=[⟨v2,.bytes key⟩]) (args:=[.ref 0 vs 3 0 0,.own 5 v2 1 0 key.length])
  ⟨trivial,trivial,trivial,trivial⟩ ⟨⟨trivial,trivial,trivial,trivial⟩,⟨trivial,trivial,trivial,trivial⟩,⟨trivial,trivial,trivial,trivial⟩,⟨trivial,trivial,trivial,trivial,trivial,trivial,trivial⟩,trivial,trivial⟩ ⟨⟨(by decide:3<5),(by decide:1<5),(by decide:2<5),trivial⟩,⟨(by decide:3<5),trivial,trivial,trivial⟩,⟨(by decide:3<5),trivial,trivial,trivial⟩,⟨(by decide:4<5),trivial,trivial,trivial,trivial,trivial,trivial⟩,trivial,trivial⟩ ⟨⟨trivial,trivial,trivial,trivial⟩,⟨trivial,trivial,trivial,trivial⟩,⟨trivial,trivial,trivial,trivial⟩,⟨trivial,trivial,trivial,trivial,trivial,trivial,trivial⟩,trivial,trivial⟩ rfl ⟨trivial,trivial⟩ (by simp[eM])
  (fO (mq trivial (by decide:0<5)) (fO (oc (q:=0) (l:=key) rfl (by omega)) mo))
 exact h
theorem aw.put{B:Int}{n k:Nat}{s:U}(g:aw B n k s)(c:Nat)(key val:List UInt8):aw (B+65805) n k (s.put c key val).2:=by
 unfold U.put
 have ga:=g.add ((s.a8 c).1*c) c key val
 split
 ·split
  ·exact(ga.kill _ _ _).mono (by omega)
  ·exact ga.mono (by omega)
 ·exact ga.mono (by omega)
theorem Qj{B:Int}{n k:Nat}{s:U}(g:aw B n k s){c:Nat}(pa:aA n k 0 c)(pb:aA n k c c):(b8 (s.bw c)).length≤4194304:=by
 have h1:=(iL (s.bw c)).length_le
 have h2:(s.bw c).length≤4194304:=by
  unfold U.bw U.fg
  rw[List.length_map]
  rcases pG s c with hi | hi
  ·rw[hi,Nat.zero_mul]
   obtain⟨l,e,b,hS⟩:∃l e b,s.scan 0 c=(l,e,b):=⟨_,_,_,rfl⟩
   have:=jH g pa hS
   rw[hS];exact this
  ·rw[hi,Nat.one_mul]
   obtain⟨l,e,b,hS⟩:∃l e b,s.scan c c=(l,e,b):=⟨_,_,_,rfl⟩
   have:=jH g pb hS
   rw[hS];exact this
 omega
theorem aw.set{B:Int}{n k:Nat}{s:U}(g:aw B n k s){c:Nat}(pa:aA n k 0 c)(pb:aA n k c c)(key val:List UInt8):aw (B+300000000000) n k (s.set c key val).2:=by
 have hf:=Qj g pa pb
 have hc:=pa.ac.2
 unfold U.set
 split
 ·exact g.mono (by omega)
 split
 ·exact g.mono (by omega)
 split
 ·exact g.mono (by omega)
 split
 ·have gc:=g.copy c (b8 (s.bw c))
  split
  ·split
   ·exact gc.mono (by omega)
   ·exact(gc.put c key val).mono (by omega)
  ·exact gc.mono (by omega)
 ·exact(g.put c key val).mono (by omega)
end Go.Proofs.YtpbpiehcchannaaGreatDoor
