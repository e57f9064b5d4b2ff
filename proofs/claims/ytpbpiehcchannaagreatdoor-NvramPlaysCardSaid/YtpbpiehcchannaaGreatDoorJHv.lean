/- Walks of nvram: Set and Get with slices of their own. What a store's calls keep of a flash; works of lintellaw09. Walks of nvram: what a Get tells of a store that is a map. Conditions: the premises of each law. -/
import Derived.Test.YtpbpiehcchannaaGreatDoorJHw
import Derived.Test.YtpbpiehcchannaaGreatDoorJNv12
import Derived.Test.YtpbpiehcchannaaGreatDoorJHp
namespace Go.Proofs.YtpbpiehcchannaaGreatDoor
open Go.RowKit
set_option linter.unusedVariables false
set_option linter.unusedSimpArgs false
set_option maxRecDepth 100000
set_option maxHeartbeats 1500000
theorem EH {W : Int} {n k : Nat} (s : J) (c : Nat) (g : av W n k s) (hW : W ≤ 1000000000000000) (pa : aC n k 0 c) (pb : aC n k c c) (hd : s.dd = false) (z z' : Nat) (key val : List UInt8) (cE : key.length ≤ 140737488355328) (dp : val.length ≤ 140737488355328) (vs va vb v0 v1 : Nat) : Spec Tryz.prog 22 [.ref 0 vs 3 0 0, .bs z key, .bs z' val] [⟨vs, .obj [.ref 3 v0 6 0 0, .ref 1 va 3 0 0, .ref 2 vb 3 0 0]⟩, ⟨va, .obj [.ref 3 v0 6 0 0, .val (.int .i64 ((0 : Nat) : Int)), .val (.int .i64 (c : Int))]⟩, ⟨vb, .obj [.ref 3 v0 6 0 0, .val (.int .i64 (c : Int)), .val (.int .i64 (c : Int))]⟩, ⟨v0, .obj [.own 4 v1 1 0 s.l.length, .val (.int .i64 (s.k : Int)), .val (.int .i64 s.ar), .val (.int .i64 s.pt), .val (.bool s.dd), .val (.int .i64 s.wr)]⟩, ⟨v1, .bytes s.l⟩]
   (ak (.val (.int .i64 (s.set c key val).1)) [⟨vs,.obj [.ref 3 v0 6 0 0,.ref 1 va 3 0 0,.ref 2 vb 3 0 0]⟩,⟨va,.obj [.ref 3 v0 6 0 0,.val (.int .i64 ((0:Nat):Int)),.val (.int .i64 (c:Int))]⟩,⟨vb,.obj [.ref 3 v0 6 0 0,.val (.int .i64 (c:Int)),.val (.int .i64 (c:Int))]⟩,⟨v0,.obj [.own 4 v1 1 0 (s.set c key val).2.l.length,.val (.int .i64 ((s.set c key val).2.k:Int)),.val (.int .i64 (s.set c key val).2.ar),.val (.int .i64 (s.set c key val).2.pt),.val (.bool (s.set c key val).2.dd),.val (.int .i64 (s.set c key val).2.wr)]⟩,⟨v1,.bytes (s.set c key val).2.l⟩] []):=by
 rcases gC s c with hi | hi
 ·exact Nn s c g hW pa pb hd hi z z' key val cE dp vs va vb v0 v1
 ·exact No s c g hW pa pb hd hi z z' key val cE dp vs va vb v0 v1
theorem vZ {W : Int} {n k : Nat} (s : J) (c : Nat) (g : av W n k s) (hW : W ≤ 1000000000000000) (pa : aC n k 0 c) (pb : aC n k c c) (hd : s.dd = false) (key val : List UInt8) (kn vn : Nat) (cu : kn = key.length) (j8 : vn = val.length) (cE : key.length ≤ 140737488355328) (dp : val.length ≤ 140737488355328) (vs va vb v0 v1 v2 v3 : Nat) : Spec Tryz.prog 22 [.ref 0 vs 3 0 0, .own 5 v2 1 0 kn, .own 6 v3 1 0 vn] [⟨vs, .obj [.ref 3 v0 6 0 0, .ref 1 va 3 0 0, .ref 2 vb 3 0 0]⟩, ⟨va, .obj [.ref 3 v0 6 0 0, .val (.int .i64 ((0 : Nat) : Int)), .val (.int .i64 (c : Int))]⟩, ⟨vb, .obj [.ref 3 v0 6 0 0, .val (.int .i64 (c : Int)), .val (.int .i64 (c : Int))]⟩, ⟨v0, .obj [.own 4 v1 1 0 s.l.length, .val (.int .i64 (s.k : Int)), .val (.int .i64 s.ar), .val (.int .i64 s.pt), .val (.bool s.dd), .val (.int .i64 s.wr)]⟩, ⟨v1, .bytes s.l⟩, ⟨v2, .bytes key⟩, ⟨v3, .bytes val⟩]
   (ak (.val (.int .i64 (s.set c key val).1)) [⟨vs,.obj [.ref 3 v0 6 0 0,.ref 1 va 3 0 0,.ref 2 vb 3 0 0]⟩,⟨va,.obj [.ref 3 v0 6 0 0,.val (.int .i64 ((0:Nat):Int)),.val (.int .i64 (c:Int))]⟩,⟨vb,.obj [.ref 3 v0 6 0 0,.val (.int .i64 (c:Int)),.val (.int .i64 (c:Int))]⟩,⟨v0,.obj [.own 4 v1 1 0 (s.set c key val).2.l.length,.val (.int .i64 ((s.set c key val).2.k:Int)),.val (.int .i64 (s.set c key val).2.ar),.val (.int .i64 (s.set c key val).2.pt),.val (.bool (s.set c key val).2.dd),.val (.int .i64 (s.set c key val).2.wr)]⟩,⟨v1,.bytes (s.set c key val).2.l⟩,⟨v2,.bytes key⟩,⟨v3,.bytes val⟩] []):=by
 subst cu j8
 have e:=whole key
 have e':=whole val
 have h:=oX (EH s c g hW pa pb hd 0 0 ((key.drop 0).take key.length) ((val.drop 0).take val.length) (by rw[e];exact cE) (by rw[e'];exact dp) vs va vb v0 v1) (R:=[⟨v2,.bytes key⟩,⟨v3,.bytes val⟩]) (args:=[.ref 0 vs 3 0 0,.own 5 v2 1 0 key.length,.own 6 v3 1 0 val.length])
  trivial ⟨⟨trivial,trivial,trivial,trivial⟩,⟨trivial,trivial,trivial,trivial⟩,⟨trivial,trivial,trivial,trivial⟩,⟨trivial,trivial,trivial,trivial,trivial,trivial,trivial⟩,trivial,trivial⟩ ⟨⟨(by decide:3<5),(by decide:1<5),(by decide:2<5),trivial⟩,⟨(by decide:3<5),trivial,trivial,trivial⟩,⟨(by decide:3<5),trivial,trivial,trivial⟩,⟨(by decide:4<5),trivial,trivial,trivial,trivial,trivial,trivial⟩,trivial,trivial⟩ ⟨⟨trivial,trivial,trivial,trivial⟩,⟨trivial,trivial,trivial,trivial⟩,⟨trivial,trivial,trivial,trivial⟩,⟨trivial,trivial,trivial,trivial,trivial,trivial,trivial⟩,trivial,trivial⟩ rfl trivial trivial
  (gx (mL trivial (by decide:0<5)) (gx (o0 (q:=0) (l:=key) rfl (by omega)) (gx (o0 (q:=1) (l:=val) rfl (by omega)) oY)))
 rw[e,e'] at h
 exact h
theorem Np {W : Int} {n k : Nat} (s : J) (c : Nat) (g : av W n k s) (pa : aC n k 0 c) (pb : aC n k c c) (hd : s.dd = false) (hi : (s.aI c).1 = 0) {l : List Rc} {e : Nat} {b : Bool} (hS : s.scan 0 c = (l, e, b)) (key : List UInt8) (j : Nat) (d : Rc) (hj : l[j]? = some d) (hk : aJ (l.map an) key = (j : Int)) (kn : Nat) (cu : kn = key.length) (vs va vb v0 v1 v2 : Nat) : Spec Tryz.prog 64 [.ref 0 vs 3 0 0, .own 5 v2 1 0 kn] [⟨vs, .obj [.ref 3 v0 6 0 0, .ref 1 va 3 0 0, .ref 2 vb 3 0 0]⟩, ⟨va, .obj [.ref 3 v0 6 0 0, .val (.int .i64 ((0 : Nat) : Int)), .val (.int .i64 (c : Int))]⟩, ⟨vb, .obj [.ref 3 v0 6 0 0, .val (.int .i64 (c : Int)), .val (.int .i64 (c : Int))]⟩, ⟨v0, .obj [.own 4 v1 1 0 s.l.length, .val (.int .i64 (s.k : Int)), .val (.int .i64 s.ar), .val (.int .i64 s.pt), .val (.bool s.dd), .val (.int .i64 s.wr)]⟩, ⟨v1, .bytes s.l⟩, ⟨v2, .bytes key⟩]
   (ak (.al [.pl 22 4 (2*j+1) 0 d.val.length,.val (.bool true),.val (.int .i64 0)]) [⟨vs,.obj [.ref 3 v0 6 0 0,.ref 1 va 3 0 0,.ref 2 vb 3 0 0]⟩,⟨va,.obj [.ref 3 v0 6 0 0,.val (.int .i64 ((0:Nat):Int)),.val (.int .i64 (c:Int))]⟩,⟨vb,.obj [.ref 3 v0 6 0 0,.val (.int .i64 (c:Int)),.val (.int .i64 (c:Int))]⟩,⟨v0,.obj [.own 4 v1 1 0 s.l.length,.val (.int .i64 (s.k:Int)),.val (.int .i64 s.ar),.val (.int .i64 s.pt),.val (.bool s.dd),.val (.int .i64 s.wr)]⟩,⟨v1,.bytes s.l⟩,⟨v2,.bytes key⟩] [(22,⟨4,.aB (cV l)⟩)]):=by
 subst cu
 have e':=whole key
 have h:=oX (EJ s c g pa pb hd hi hS 0 ((key.drop 0).take key.length) j d hj (by rw[e'];exact hk) vs va vb v0 v1) (R:=[⟨v2,.bytes key⟩]) (args:=[.ref 0 vs 3 0 0,.own 5 v2 1 0 key.length])
  ⟨trivial,trivial,trivial,trivial⟩ ⟨⟨trivial,trivial,trivial,trivial⟩,⟨trivial,trivial,trivial,trivial⟩,⟨trivial,trivial,trivial,trivial⟩,⟨trivial,trivial,trivial,trivial,trivial,trivial,trivial⟩,trivial,trivial⟩ ⟨⟨(by decide:3<5),(by decide:1<5),(by decide:2<5),trivial⟩,⟨(by decide:3<5),trivial,trivial,trivial⟩,⟨(by decide:3<5),trivial,trivial,trivial⟩,⟨(by decide:4<5),trivial,trivial,trivial,trivial,trivial,trivial⟩,trivial,trivial⟩ ⟨⟨trivial,trivial,trivial,trivial⟩,⟨trivial,trivial,trivial,trivial⟩,⟨trivial,trivial,trivial,trivial⟩,⟨trivial,trivial,trivial,trivial,trivial,trivial,trivial⟩,trivial,trivial⟩ rfl ⟨trivial,trivial⟩ (by simp[ef])
  (gx (mL trivial (by decide:0<5)) (gx (o0 (q:=0) (l:=key) rfl (by omega)) oY))
 exact h
theorem Nq {W : Int} {n k : Nat} (s : J) (c : Nat) (g : av W n k s) (pa : aC n k 0 c) (pb : aC n k c c) (hd : s.dd = false) (hi : (s.aI c).1 = 1) {l : List Rc} {e : Nat} {b : Bool} (hS : s.scan c c = (l, e, b)) (key : List UInt8) (j : Nat) (d : Rc) (hj : l[j]? = some d) (hk : aJ (l.map an) key = (j : Int)) (kn : Nat) (cu : kn = key.length) (vs va vb v0 v1 v2 : Nat) : Spec Tryz.prog 64 [.ref 0 vs 3 0 0, .own 5 v2 1 0 kn] [⟨vs, .obj [.ref 3 v0 6 0 0, .ref 1 va 3 0 0, .ref 2 vb 3 0 0]⟩, ⟨va, .obj [.ref 3 v0 6 0 0, .val (.int .i64 ((0 : Nat) : Int)), .val (.int .i64 (c : Int))]⟩, ⟨vb, .obj [.ref 3 v0 6 0 0, .val (.int .i64 (c : Int)), .val (.int .i64 (c : Int))]⟩, ⟨v0, .obj [.own 4 v1 1 0 s.l.length, .val (.int .i64 (s.k : Int)), .val (.int .i64 s.ar), .val (.int .i64 s.pt), .val (.bool s.dd), .val (.int .i64 s.wr)]⟩, ⟨v1, .bytes s.l⟩, ⟨v2, .bytes key⟩]
   (ak (.al [.pl 22 4 (2*j+1) 0 d.val.length,.val (.bool true),.val (.int .i64 0)]) [⟨vs,.obj [.ref 3 v0 6 0 0,.ref 1 va 3 0 0,.ref 2 vb 3 0 0]⟩,⟨va,.obj [.ref 3 v0 6 0 0,.val (.int .i64 ((0:Nat):Int)),.val (.int .i64 (c:Int))]⟩,⟨vb,.obj [.ref 3 v0 6 0 0,.val (.int .i64 (c:Int)),.val (.int .i64 (c:Int))]⟩,⟨v0,.obj [.own 4 v1 1 0 s.l.length,.val (.int .i64 (s.k:Int)),.val (.int .i64 s.ar),.val (.int .i64 s.pt),.val (.bool s.dd),.val (.int .i64 s.wr)]⟩,⟨v1,.bytes s.l⟩,⟨v2,.bytes key⟩] [(22,⟨4,.aB (cV l)⟩)]):=by
 subst cu
 have e':=whole key
 have h:=oX (EK s c g pa pb hd hi hS 0 ((key.drop 0).take key.length) j d hj (by rw[e'];exact hk) vs va vb v0 v1) (R:=[⟨v2,.bytes key⟩]) (args:=[.ref 0 vs 3 0 0,.own 5 v2 1 0 key.length])
  ⟨trivial,trivial,trivial,trivial⟩ ⟨⟨trivial,trivial,trivial,trivial⟩,⟨trivial,trivial,trivial,trivial⟩,⟨trivial,trivial,trivial,trivial⟩,⟨trivial,trivial,trivial,trivial,trivial,trivial,trivial⟩,trivial,trivial⟩ ⟨⟨(by decide:3<5),(by decide:1<5),(by decide:2<5),trivial⟩,⟨(by decide:3<5),trivial,trivial,trivial⟩,⟨(by decide:3<5),trivial,trivial,trivial⟩,⟨(by decide:4<5),trivial,trivial,trivial,trivial,trivial,trivial⟩,trivial,trivial⟩ ⟨⟨trivial,trivial,trivial,trivial⟩,⟨trivial,trivial,trivial,trivial⟩,⟨trivial,trivial,trivial,trivial⟩,⟨trivial,trivial,trivial,trivial,trivial,trivial,trivial⟩,trivial,trivial⟩ rfl ⟨trivial,trivial⟩ (by simp[ef])
  (gx (mL trivial (by decide:0<5)) (gx (o0 (q:=0) (l:=key) rfl (by omega)) oY))
 exact h
end Go.Proofs.YtpbpiehcchannaaGreatDoor
namespace Go.Proofs.YtpbpiehcchannaaGreatDoor
open Go.RowKit
set_option linter.unusedVariables false
set_option linter.unusedSimpArgs false
set_option maxRecDepth 100000
set_option maxHeartbeats 1500000
theorem av.put{B:Int}{n k:Nat}{s:J}(g:av B n k s)(c:Nat)(key val:List UInt8):av (B+65805) n k (s.put c key val).2:=by
 unfold J.put
 have ga:=g.add ((s.aI c).1*c) c key val
 split
 ·split
  ·exact(ga.kill _ _ _).mono (by omega)
  ·exact ga.mono (by omega)
 ·exact ga.mono (by omega)
theorem Nr{B:Int}{n k:Nat}{s:J}(g:av B n k s){c:Nat}(pa:aC n k 0 c)(pb:aC n k c c):(bm (s.au c)).length≤4194304:=by
 have h1:=(dR (s.au c)).length_le
 have h2:(s.au c).length≤4194304:=by
  unfold J.au J.be
  rw[List.length_map]
  rcases gC s c with hi | hi
  ·rw[hi,Nat.zero_mul]
   obtain⟨l,e,b,hS⟩:∃l e b,s.scan 0 c=(l,e,b):=⟨_,_,_,rfl⟩
   have:=ja g pa hS
   rw[hS];exact this
  ·rw[hi,Nat.one_mul]
   obtain⟨l,e,b,hS⟩:∃l e b,s.scan c c=(l,e,b):=⟨_,_,_,rfl⟩
   have:=ja g pb hS
   rw[hS];exact this
 omega
theorem av.set{B:Int}{n k:Nat}{s:J}(g:av B n k s){c:Nat}(pa:aC n k 0 c)(pb:aC n k c c)(key val:List UInt8):av (B+300000000000) n k (s.set c key val).2:=by
 have hf:=Nr g pa pb
 have hc:=pa.ac.2
 unfold J.set
 split
 ·exact g.mono (by omega)
 split
 ·exact g.mono (by omega)
 split
 ·exact g.mono (by omega)
 split
 ·have gc:=g.copy c (bm (s.au c))
  split
  ·split
   ·exact gc.mono (by omega)
   ·exact(gc.put c key val).mono (by omega)
  ·exact gc.mono (by omega)
 ·exact(g.put c key val).mono (by omega)
theorem v7:Spec Tryz.prog 13 [] [] (ak (.val (.bool true)) [] []):=by
 obtain⟨s1,b1,o1,m1⟩:=NM.new (c:=1) (k:=64) (by decide) (by decide)
 have FO:(J.new 2 64).bg 1=(0,s1):=o1
 have Ns:(J.new 2 64).b6 0 1 1 []=(0,s1):=b1
 have la:aC 128 64 0 1:=⟨by decide,by decide,by decide,by decide⟩
 have lb:aC 128 64 1 1:=⟨by decide,by decide,by decide,by decide⟩
 have g0:av 0 128 64 (J.new 2 64):=av.new 2 64 (by decide) (by decide)
 have g1:av 14 128 64 s1:=by have:=g0.vV 1 1;rw[Ns] at this;exact this
 have hN:=Ef 2 64 (by decide) (by decide)
 have eu:=jZ (v8 (J.new 2 64) 1 g0 (by decide) la lb rfl rfl 2 3) fun X H q=>q.1 (by rw[FO])
 rw[FO] at eu
 obtain⟨s2,e2,m2⟩:=(m1.set (by decide) (by decide) (key:=[97]) (val:=List.replicate 10 0) (by decide) (by decide)).2 (by decide)
 obtain⟨s3,e3,m3⟩:=(m2.set (by decide) (by decide) (key:=[97]) (val:=[1,2,3,4,5,6,7,8,9,10,11,12]) (by decide) (by decide)).2 (by decide)
 have e4:=(m3.set (by decide) (by decide) (key:=[97]) (val:=List.replicate 12 0) (by decide) (by decide)).1 (by decide)
 obtain⟨s5,e5,m5⟩:=(m3.set (by decide) (by decide) (key:=[98]) (val:=List.replicate 10 0) (by decide) (by decide)).2 (by decide)
 have g2:=g1.set la lb [97] (List.replicate 10 0)
 rw[e2] at g2
 have g3:=g2.set la lb [97] [1,2,3,4,5,6,7,8,9,10,11,12]
 rw[e3] at g3
 have g5:=g3.set la lb [98] (List.replicate 10 0)
 rw[e5] at g5
 obtain⟨i,l,e,hi,aS,hS,_,lL⟩:=m5.look
 obtain⟨j,d,hj,hk,hv⟩:=lL ⟨[97],[1,2,3,4,5,6,7,8,9,10,11,12],true⟩ (by decide)
 generalize J.new 2 64=S at hN eu
 refine aq aj Tryz.func13 rfl Tryz.ntmps13 Tryz.results13 ?_
 refine gg (k:= ?_)
 refine ae (hN) Tryz.call26 0 [0,0,0,0,0,0,0,0,0,0,0,0,0,0,0,0,0,0,0,0,0,0,0,0,71,0,0,70] [0,0,0,0,0,0,0,0,0,0,0,0,0,0,0,0,0,0,0,0,0,0,0,0,1,0,0,1] [27,24] ?_
 refine gg (k:= ?_)
 refine ae (eu) Tryz.call17 2 [70,71,0,0,0,0,0,0,0,0,0,0,0,0,0,0,0,0,0,0,0,0,0,0,0,0,0,0,0,0,0,0,0,0,0,0,0,0,0,72,0,0,0,0,0,0,0,0,0,0,0,0,0,0,0,0,0,0,0,0,0,0,0,0,0,0,0,0,0,0,0,0,0,0,0,0,0,0,0,0,73,74] [0,0,0,0,0,0,0,0,0,0,0,0,0,0,0,0,0,0,0,0,0,0,0,0,0,0,0,0,0,0,0,0,0,0,0,0,0,0,0,1,0,0,0,0,0,0,0,0,0,0,0,0,0,0,0,0,0,0,0,0,0,0,0,0,0,0,0,0,0,0,0,0,0,0,0,0,0,0,0,0,1,1] [39,80,81] ?_
 refine gg (k:= ?_)
 refine bD (k:= ?_)
 refine ae (od s1 1 g1 la 2 3 3 2 3) Tryz.call27 5 [72,73,74,70,71] [0,0,0,0,0] [] ?_
 rw[show((1:Nat):Int)*(s1.k:Int) - 16=48 by rw[g1.k];rfl]
 refine gg (k:= ?_)
 refine ae (vZ s1 1 g1 (by decide) la lb m1.live [97] (List.replicate 10 0) 1 10 rfl rfl (by decide) (by decide) 2 3 3 2 3 1 1) Tryz.call22 7 [72,73,74,70,71,34,36] [0,0,0,0,0,0,0] [] ?_
 rw[e2]
 refine gg (k:= ?_)
 refine ae (vZ s2 1 g2 (by decide) la lb m2.live [97] [1,2,3,4,5,6,7,8,9,10,11,12] 1 12 rfl rfl (by decide) (by decide) 2 3 3 2 3 1 1) Tryz.call22 7 [72,73,74,70,71,39,41] [0,0,0,0,0,0,0] [] ?_
 rw[e3]
 refine gg (k:= ?_)
 refine ae (vZ s3 1 g3 (by decide) la lb m3.live [97] (List.replicate 12 0) 1 12 rfl rfl (by decide) (by decide) 2 3 3 2 3 1 1) Tryz.call22 7 [72,73,74,70,71,44,46] [0,0,0,0,0,0,0] [] ?_
 rw[e4]
 refine gg (k:= ?_)
 refine ae (vZ s3 1 g3 (by decide) la lb m3.live [98] (List.replicate 10 0) 1 10 rfl rfl (by decide) (by decide) 2 3 3 2 3 1 1) Tryz.call22 7 [72,73,74,70,71,49,51] [0,0,0,0,0,0,0] [] ?_
 rw[e5]
 refine gg (k:= ?_)
 have Aq:=(pg l j d hj).2
 rw[hv] at Aq
 simp only at hk
 have dG:2*j+1< (cV l).length:=(List.getElem?_eq_some_iff.1 Aq).1
 have dW:(cV l).getD (2*j+1) []=[1,2,3,4,5,6,7,8,9,10,11,12]:=by rw[List.getD_eq_getElem?_getD,Aq];rfl
 rcases hi with rfl | rfl
 ·simp only[Nat.zero_mul] at hS
  refine ae (Np s5 1 g5 la lb m5.live aS hS [97] j d hj hk 1 rfl 2 3 3 2 3 1) Tryz.call64 6 [72,73,74,70,71,55,0,0,0,0,0,0,0,0,0,0,0,0,0,0,0,0,75] [0,0,0,0,0,0,0,0,0,0,0,0,0,0,0,0,0,0,0,0,0,0,1] [22] ?_
  rw[hv]
  refine gg (k:= ?_)
  conv=>whnf
  refine And.intro ?_ ?_
  ·refine fun _=>⟨by simp[dH,dC,iw,aQ,bn,aT],?_⟩
   exact⟨rfl,dG,by rw[dW];decide,trivial⟩
  refine gg (k:= ?_)
  rw[dW]
  exact⟨_,rfl,rfl,trivial⟩
 ·simp only[Nat.one_mul] at hS
  refine ae (Nq s5 1 g5 la lb m5.live aS hS [97] j d hj hk 1 rfl 2 3 3 2 3 1) Tryz.call64 6 [72,73,74,70,71,55,0,0,0,0,0,0,0,0,0,0,0,0,0,0,0,0,75] [0,0,0,0,0,0,0,0,0,0,0,0,0,0,0,0,0,0,0,0,0,0,1] [22] ?_
  rw[hv]
  refine gg (k:= ?_)
  conv=>whnf
  refine And.intro ?_ ?_
  ·refine fun _=>⟨by simp[dH,dC,iw,aQ,bn,aT],?_⟩
   exact⟨rfl,dG,by rw[dW];decide,trivial⟩
  refine gg (k:= ?_)
  rw[dW]
  exact⟨_,rfl,rfl,trivial⟩
end Go.Proofs.YtpbpiehcchannaaGreatDoor
namespace Go.Proofs.YtpbpiehcchannaaGreatDoor
open Go.RowKit
set_option linter.unusedVariables false
set_option linter.unusedSimpArgs false
set_option maxRecDepth 100000
set_option maxHeartbeats 1500000
end Go.Proofs.YtpbpiehcchannaaGreatDoor
