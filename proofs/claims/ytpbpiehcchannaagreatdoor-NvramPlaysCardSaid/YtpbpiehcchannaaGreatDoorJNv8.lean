/- Walks of nvram: tidy. Conditions: none. -/
import Derived.Test.YtpbpiehcchannaaGreatDoorJNv7
namespace Go.Proofs.YtpbpiehcchannaaGreatDoor
open Go.RowKit
set_option linter.unusedVariables false
set_option linter.unusedSimpArgs false
set_option maxRecDepth 100000
set_option maxHeartbeats 1500000
structure TS where
 k:Nat
 s:J
theorem Nw {W : Int} {n k : Nat} (s : J) (c : Nat) (g : av W n k s) (hW : W ≤ 1000000000000000000) (pa : aC n k 0 c) (pb : aC n k c c) (hd : s.dd = false) (hi : (s.aI c).1 = 0) (vs va vb v0 v1 : Nat) : Spec Tryz.prog 71 [.ref 0 vs 3 0 0] [⟨vs, .obj [.ref 3 v0 6 0 0, .ref 1 va 3 0 0, .ref 2 vb 3 0 0]⟩, ⟨va, .obj [.ref 3 v0 6 0 0, .val (.int .i64 ((0 : Nat) : Int)), .val (.int .i64 (c : Int))]⟩, ⟨vb, .obj [.ref 3 v0 6 0 0, .val (.int .i64 (c : Int)), .val (.int .i64 (c : Int))]⟩, ⟨v0, .obj [.own 4 v1 1 0 s.l.length, .val (.int .i64 (s.k : Int)), .val (.int .i64 s.ar), .val (.int .i64 s.pt), .val (.bool s.dd), .val (.int .i64 s.wr)]⟩, ⟨v1, .bytes s.l⟩]
   (ak (.val (.int .i64 (s.tidy c).1)) [⟨vs,.obj [.ref 3 v0 6 0 0,.ref 1 va 3 0 0,.ref 2 vb 3 0 0]⟩,⟨va,.obj [.ref 3 v0 6 0 0,.val (.int .i64 ((0:Nat):Int)),.val (.int .i64 (c:Int))]⟩,⟨vb,.obj [.ref 3 v0 6 0 0,.val (.int .i64 (c:Int)),.val (.int .i64 (c:Int))]⟩,⟨v0,.obj [.own 4 v1 1 0 (s.tidy c).2.l.length,.val (.int .i64 ((s.tidy c).2.k:Int)),.val (.int .i64 (s.tidy c).2.ar),.val (.int .i64 (s.tidy c).2.pt),.val (.bool (s.tidy c).2.dd),.val (.int .i64 (s.tidy c).2.wr)]⟩,⟨v1,.bytes (s.tidy c).2.l⟩] []):=by
 have db:=n5 s c g pa pb vs va vb v0 v1
 rw[hi] at db
 obtain⟨l,e,b,hS⟩:∃l e b,s.scan 0 c=(l,e,b):=⟨_,_,_,rfl⟩
 have hT:s.tidy c=s.dc 0 c (l.map an) 0 l.length:=by
  unfold J.tidy J.au J.be
  rw[hd,hi,if_neg (by simp),show 0*c=0 by omega,hS,List.length_map]
 rw[hT]
 have eC:=vA s 0 c g pa hd l.length (by rw[hS]) va v0 v1
 rw[hS] at eC
 have b9:=eB g pa hS
 have jm:=ja g pa hS
 clear hT hS
 generalize lu:s.dc 0 c (l.map an) 0 l.length=T0
 refine aq aj Tryz.func71 rfl Tryz.ntmps71 Tryz.results71 ?_
 refine gg (k:= ?_)
 refine ae (db) Tryz.call69 5 [0,1,2,3,4] [0,0,0,0,0] [] ?_
 refine gg (k:= ?_)
 refine ae (eC) Tryz.call115 (he:=⟨fun _=>⟨rfl,rfl,trivial,trivial⟩,trivial,trivial⟩) 3 [1,3,4,0,0,0,0,0,0,0,0,0,0,32,33] [0,0,0,0,0,0,0,0,0,0,0,0,0,1,1] [13,14] ?_
 refine gg (k:= ?_)
 (refine ax (k:= ?_))
 conv=>whnf
 refine bh (fun y:TS=>y.k≤l.length∧y.s.dc 0 c (l.map an) y.k (l.length - y.k)=T0∧av (W+y.k) n k y.s) (fun y=>l.length - y.k) 5 [2,10,11,12,36,37,38,39,40,41,42,43,44,45,46,47,48,49,50,51,52,53,54,55,56,57,58,59,60,61,62] (fun y=>[(36,.val (.int .i64 (y.k:Int)))]) (fun y=>[(3,⟨v0,.obj [.own 4 v1 1 0 y.s.l.length,.val (.int .i64 (y.s.k:Int)),.val (.int .i64 y.s.ar),.val (.int .i64 y.s.pt),.val (.bool y.s.dd),.val (.int .i64 y.s.wr)]⟩),(4,⟨v1,.bytes y.s.l⟩)]) ⟨0,s⟩ ⟨Nat.zero_le _,lu,by simpa using g⟩ ?_ ?_ ?_
 ·exact no_implicit_lambda%ten
 ·exact no_implicit_lambda%az
 ·rintro⟨j,t⟩ v ⟨j1,j2,j3⟩
  simp only at j1 j2 j3
  refine bc (k:= ?_)
  refine gg (k:= ?_)
  refine⟨fun h'=> ?_,fun h'=> ?_⟩
  ·have ai:j<l.length:=by have:=of_decide_eq_true h';omega
   obtain⟨d,kx⟩:∃d,l[j]? =some d:=⟨l[j],List.getElem?_eq_getElem ai⟩
   obtain⟨p0,p1⟩:=pg l j d kx
   have hr:(bK 0 l).getD j ⟨0,0,0,false⟩=⟨2*j,d.key.length,d.val.length,d.lv⟩:=by rw[List.getD_eq_getElem?_getD,ph l 0 j d kx,Nat.zero_add];rfl
   have eP:(l.map an).getD j bl=an d:=by rw[List.getD_eq_getElem?_getD,List.getElem?_map,kx];rfl
   have cY:(bK 0 l).length=l.length:=cP l 0
   rw[show l.length - j=(l.length - (j+1))+1 by omega,J.dc,eP] at j2
   refine gg (k:= ?_)
   simp only[Int.toNat_natCast,Nat.zero_add]
   try ((conv=>whnf);(refine And.intro ⟨rfl,⟨rfl,by rw[cY];exact ai⟩,Nat.le_of_ble_eq_true rfl⟩ ?_))
   rw[hr]
   obtain⟨dk,dv,dl,da⟩:=d
   cases dl with
   | false=>
    rw[if_neg (fun q=>by cases q.1)] at j2
    refine gg (k:= ?_)
    intro _
    refine gg (k:= ?_)
    refine aM ⟨j+1,t⟩ ⟨ai,j2,j3.mono (by simp only;omega)⟩ (by show l.length - (j+1)<l.length - j;omega) ?_ ?_
    ·exact no_implicit_lambda%ten
    ·exact no_implicit_lambda%az
   | true=>
    refine gg (k:= ?_)
    refine ae (zQ (ct.of l) b9 p0 l.length dk.length (l.length+2+1) 3 (cP l 0).symm rfl) Tryz.call82 (hrows:=⟨⟨fun _=>⟨Nat.lt_succ_self 1,Nat.lt_succ_self 1,trivial,trivial⟩,rfl⟩,⟨trivial,rfl⟩,trivial⟩) (hr2:=⟨fun _=>⟨rfl,rfl,trivial,trivial⟩,trivial,trivial⟩) 2 [32,33] [0,0] [] ?_
    by_cases hq:aJ (l.map an) dk=(j:Int)
    ·rw[if_neg (fun q=>q.2 hq)] at j2
     refine gg (k:= ?_)
     rw[decide_eq_true hq]
     refine gg (k:= ?_)
     refine aM ⟨j+1,t⟩ ⟨ai,j2,j3.mono (by simp only;omega)⟩ (by show l.length - (j+1)<l.length - j;omega) ?_ ?_
     ·exact no_implicit_lambda%ten
     ·exact no_implicit_lambda%az
    ·rw[if_pos ⟨rfl,hq⟩] at j2
     have ir:=jC t 0 c j3 (by omega) pa (j:Int) (by unfold aG;omega) va v0 v1
     have gk:=j3.kill 0 c (j:Int)
     generalize t.kill 0 c (j:Int)=T at j2 ir gk
     refine gg (k:= ?_)
     rw[decide_eq_false hq]
     refine gg (k:= ?_)
     refine ae (ir) Tryz.call83 3 [1,3,4] [0,0,0] [] ?_
     by_cases hz:T.1=0
     ·rw[if_pos hz] at j2
      refine gg (k:= ?_)
      rw[decide_eq_true hz]
      refine gg (k:= ?_)
      refine aM ⟨j+1,T.2⟩ ⟨ai,j2,gk.mono (by simp only;omega)⟩ (by show l.length - (j+1)<l.length - j;omega) ?_ ?_
      ·exact no_implicit_lambda%ten
      ·exact no_implicit_lambda%az
     ·rw[if_neg hz] at j2
      subst j2
      refine gg (k:= ?_)
      exact⟨_,rfl,rfl,trivial⟩
  ·obtain rfl:j=l.length:=by have:=of_decide_eq_false h';omega
   rw[Nat.sub_self,J.dc] at j2
   subst j2
   refine gg (k:= ?_)
   exact⟨_,rfl,rfl,trivial⟩
theorem Nx {W : Int} {n k : Nat} (s : J) (c : Nat) (g : av W n k s) (hW : W ≤ 1000000000000000000) (pa : aC n k 0 c) (pb : aC n k c c) (hd : s.dd = false) (hi : (s.aI c).1 = 1) (vs va vb v0 v1 : Nat) : Spec Tryz.prog 71 [.ref 0 vs 3 0 0] [⟨vs, .obj [.ref 3 v0 6 0 0, .ref 1 va 3 0 0, .ref 2 vb 3 0 0]⟩, ⟨va, .obj [.ref 3 v0 6 0 0, .val (.int .i64 ((0 : Nat) : Int)), .val (.int .i64 (c : Int))]⟩, ⟨vb, .obj [.ref 3 v0 6 0 0, .val (.int .i64 (c : Int)), .val (.int .i64 (c : Int))]⟩, ⟨v0, .obj [.own 4 v1 1 0 s.l.length, .val (.int .i64 (s.k : Int)), .val (.int .i64 s.ar), .val (.int .i64 s.pt), .val (.bool s.dd), .val (.int .i64 s.wr)]⟩, ⟨v1, .bytes s.l⟩]
   (ak (.val (.int .i64 (s.tidy c).1)) [⟨vs,.obj [.ref 3 v0 6 0 0,.ref 1 va 3 0 0,.ref 2 vb 3 0 0]⟩,⟨va,.obj [.ref 3 v0 6 0 0,.val (.int .i64 ((0:Nat):Int)),.val (.int .i64 (c:Int))]⟩,⟨vb,.obj [.ref 3 v0 6 0 0,.val (.int .i64 (c:Int)),.val (.int .i64 (c:Int))]⟩,⟨v0,.obj [.own 4 v1 1 0 (s.tidy c).2.l.length,.val (.int .i64 ((s.tidy c).2.k:Int)),.val (.int .i64 (s.tidy c).2.ar),.val (.int .i64 (s.tidy c).2.pt),.val (.bool (s.tidy c).2.dd),.val (.int .i64 (s.tidy c).2.wr)]⟩,⟨v1,.bytes (s.tidy c).2.l⟩] []):=by
 have db:=n5 s c g pa pb vs va vb v0 v1
 rw[hi] at db
 obtain⟨l,e,b,hS⟩:∃l e b,s.scan c c=(l,e,b):=⟨_,_,_,rfl⟩
 have hT:s.tidy c=s.dc c c (l.map an) 0 l.length:=by
  unfold J.tidy J.au J.be
  rw[hd,hi,if_neg (by simp),show 1*c=c by omega,hS,List.length_map]
 rw[hT]
 have eC:=vA s c c g pb hd l.length (by rw[hS]) vb v0 v1
 rw[hS] at eC
 have b9:=eB g pb hS
 have jm:=ja g pb hS
 clear hT hS
 generalize lu:s.dc c c (l.map an) 0 l.length=T0
 refine aq aj Tryz.func71 rfl Tryz.ntmps71 Tryz.results71 ?_
 refine gg (k:= ?_)
 refine ae (db) Tryz.call69 5 [0,1,2,3,4] [0,0,0,0,0] [] ?_
 refine gg (k:= ?_)
 refine ae (eC) Tryz.call115 (he:=⟨fun _=>⟨rfl,rfl,trivial,trivial⟩,trivial,trivial⟩) 3 [2,3,4,0,0,0,0,0,0,0,0,0,0,32,33] [0,0,0,0,0,0,0,0,0,0,0,0,0,1,1] [13,14] ?_
 refine gg (k:= ?_)
 (refine ax (k:= ?_))
 conv=>whnf
 refine bh (fun y:TS=>y.k≤l.length∧y.s.dc c c (l.map an) y.k (l.length - y.k)=T0∧av (W+y.k) n k y.s) (fun y=>l.length - y.k) 5 [2,10,11,12,36,37,38,39,40,41,42,43,44,45,46,47,48,49,50,51,52,53,54,55,56,57,58,59,60,61,62] (fun y=>[(36,.val (.int .i64 (y.k:Int)))]) (fun y=>[(3,⟨v0,.obj [.own 4 v1 1 0 y.s.l.length,.val (.int .i64 (y.s.k:Int)),.val (.int .i64 y.s.ar),.val (.int .i64 y.s.pt),.val (.bool y.s.dd),.val (.int .i64 y.s.wr)]⟩),(4,⟨v1,.bytes y.s.l⟩)]) ⟨0,s⟩ ⟨Nat.zero_le _,lu,by simpa using g⟩ ?_ ?_ ?_
 ·exact no_implicit_lambda%ten
 ·exact no_implicit_lambda%az
 ·rintro⟨j,t⟩ v ⟨j1,j2,j3⟩
  simp only at j1 j2 j3
  refine bc (k:= ?_)
  refine gg (k:= ?_)
  refine⟨fun h'=> ?_,fun h'=> ?_⟩
  ·have ai:j<l.length:=by have:=of_decide_eq_true h';omega
   obtain⟨d,kx⟩:∃d,l[j]? =some d:=⟨l[j],List.getElem?_eq_getElem ai⟩
   obtain⟨p0,p1⟩:=pg l j d kx
   have hr:(bK 0 l).getD j ⟨0,0,0,false⟩=⟨2*j,d.key.length,d.val.length,d.lv⟩:=by rw[List.getD_eq_getElem?_getD,ph l 0 j d kx,Nat.zero_add];rfl
   have eP:(l.map an).getD j bl=an d:=by rw[List.getD_eq_getElem?_getD,List.getElem?_map,kx];rfl
   have cY:(bK 0 l).length=l.length:=cP l 0
   rw[show l.length - j=(l.length - (j+1))+1 by omega,J.dc,eP] at j2
   refine gg (k:= ?_)
   simp only[Int.toNat_natCast,Nat.zero_add]
   try ((conv=>whnf);(refine And.intro ⟨rfl,⟨rfl,by rw[cY];exact ai⟩,Nat.le_of_ble_eq_true rfl⟩ ?_))
   rw[hr]
   obtain⟨dk,dv,dl,da⟩:=d
   cases dl with
   | false=>
    rw[if_neg (fun q=>by cases q.1)] at j2
    refine gg (k:= ?_)
    intro _
    refine gg (k:= ?_)
    refine aM ⟨j+1,t⟩ ⟨ai,j2,j3.mono (by simp only;omega)⟩ (by show l.length - (j+1)<l.length - j;omega) ?_ ?_
    ·exact no_implicit_lambda%ten
    ·exact no_implicit_lambda%az
   | true=>
    refine gg (k:= ?_)
    refine ae (zQ (ct.of l) b9 p0 l.length dk.length (l.length+2+1) 3 (cP l 0).symm rfl) Tryz.call82 (hrows:=⟨⟨fun _=>⟨Nat.lt_succ_self 1,Nat.lt_succ_self 1,trivial,trivial⟩,rfl⟩,⟨trivial,rfl⟩,trivial⟩) (hr2:=⟨fun _=>⟨rfl,rfl,trivial,trivial⟩,trivial,trivial⟩) 2 [32,33] [0,0] [] ?_
    by_cases hq:aJ (l.map an) dk=(j:Int)
    ·rw[if_neg (fun q=>q.2 hq)] at j2
     refine gg (k:= ?_)
     rw[decide_eq_true hq]
     refine gg (k:= ?_)
     refine aM ⟨j+1,t⟩ ⟨ai,j2,j3.mono (by simp only;omega)⟩ (by show l.length - (j+1)<l.length - j;omega) ?_ ?_
     ·exact no_implicit_lambda%ten
     ·exact no_implicit_lambda%az
    ·rw[if_pos ⟨rfl,hq⟩] at j2
     have ir:=jC t c c j3 (by omega) pb (j:Int) (by unfold aG;omega) vb v0 v1
     have gk:=j3.kill c c (j:Int)
     generalize t.kill c c (j:Int)=T at j2 ir gk
     refine gg (k:= ?_)
     rw[decide_eq_false hq]
     refine gg (k:= ?_)
     refine ae (ir) Tryz.call83 3 [2,3,4] [0,0,0] [] ?_
     by_cases hz:T.1=0
     ·rw[if_pos hz] at j2
      refine gg (k:= ?_)
      rw[decide_eq_true hz]
      refine gg (k:= ?_)
      refine aM ⟨j+1,T.2⟩ ⟨ai,j2,gk.mono (by simp only;omega)⟩ (by show l.length - (j+1)<l.length - j;omega) ?_ ?_
      ·exact no_implicit_lambda%ten
      ·exact no_implicit_lambda%az
     ·rw[if_neg hz] at j2
      subst j2
      refine gg (k:= ?_)
      exact⟨_,rfl,rfl,trivial⟩
  ·obtain rfl:j=l.length:=by have:=of_decide_eq_false h';omega
   rw[Nat.sub_self,J.dc] at j2
   subst j2
   refine gg (k:= ?_)
   exact⟨_,rfl,rfl,trivial⟩
theorem Gj{s:J}(hd:s.dd=true)(a:Nat):s.head a=(0,false,6):=by
 unfold J.head
 rw[hd,if_pos rfl]
theorem N9{s:J}(hd:s.dd=true)(c:Nat):s.aI c=(0,0,false):=by
 unfold J.aI
 rw[Gj hd,Gj hd]
 rfl
theorem Nv {W : Int} {n k : Nat} (s : J) (c : Nat) (g : av W n k s) (pa : aC n k 0 c) (pb : aC n k c c) (hd : s.dd = true) (vs va vb v0 v1 : Nat) : Spec Tryz.prog 71 [.ref 0 vs 3 0 0] [⟨vs, .obj [.ref 3 v0 6 0 0, .ref 1 va 3 0 0, .ref 2 vb 3 0 0]⟩, ⟨va, .obj [.ref 3 v0 6 0 0, .val (.int .i64 ((0 : Nat) : Int)), .val (.int .i64 (c : Int))]⟩, ⟨vb, .obj [.ref 3 v0 6 0 0, .val (.int .i64 (c : Int)), .val (.int .i64 (c : Int))]⟩, ⟨v0, .obj [.own 4 v1 1 0 s.l.length, .val (.int .i64 (s.k : Int)), .val (.int .i64 s.ar), .val (.int .i64 s.pt), .val (.bool s.dd), .val (.int .i64 s.wr)]⟩, ⟨v1, .bytes s.l⟩]
   (ak (.val (.int .i64 6)) [⟨vs,.obj [.ref 3 v0 6 0 0,.ref 1 va 3 0 0,.ref 2 vb 3 0 0]⟩,⟨va,.obj [.ref 3 v0 6 0 0,.val (.int .i64 ((0:Nat):Int)),.val (.int .i64 (c:Int))]⟩,⟨vb,.obj [.ref 3 v0 6 0 0,.val (.int .i64 (c:Int)),.val (.int .i64 (c:Int))]⟩,⟨v0,.obj [.own 4 v1 1 0 s.l.length,.val (.int .i64 (s.k:Int)),.val (.int .i64 s.ar),.val (.int .i64 s.pt),.val (.bool s.dd),.val (.int .i64 s.wr)]⟩,⟨v1,.bytes s.l⟩] []):=by
 have db:=n5 s c g pa pb vs va vb v0 v1
 rw[N9 hd] at db
 refine aq aj Tryz.func71 rfl Tryz.ntmps71 Tryz.results71 ?_
 refine gg (k:= ?_)
 refine ae (db) Tryz.call69 5 [0,1,2,3,4] [0,0,0,0,0] [] ?_
 refine gg (k:= ?_)
 refine ae (KW s 0 c g pa hd va v0 v1) Tryz.call115 3 [1,3,4] [0,0,0] [] ?_
 refine gg (k:= ?_)
 exact⟨_,rfl,rfl,trivial⟩
end Go.Proofs.YtpbpiehcchannaaGreatDoor
