/- Walks of lintelref09: Set, Delete. Walks of lintelref09: Get, Used. Conditions: the premises of each law. -/
import Derived.Test.YtpbpiehcchannaaGreatDoorJHy
namespace Go.Proofs.YtpbpiehcchannaaGreatDoor
open Go.RowKit
set_option linter.unusedVariables false
set_option linter.unusedSimpArgs false
set_option maxRecDepth 100000
set_option maxHeartbeats 3000000
structure Av(s:J)(c k:Nat):Prop where
 b:∀r∈s.au c,r.key.length≤140737488355328∧r.val.length≤140737488355328
 n:(s.au c).length≤4194304
 u:bw (bm (s.au c))≤4194304
 e:(s.be c).2.1≤c*k
theorem av.im{W:Int}{n k:Nat}{s:J}{c:Nat}(g:av W n k s)(pa:aC n k 0 c)(pb:aC n k c c):Av s c k:=by
 have key:∀a,aC n k a c→(s.aI c).1*c=a→Av s c k:=by
  intro a p ha
  obtain⟨l,e,b,hS⟩:∃l e b,s.scan a c=(l,e,b):=⟨_,_,_,rfl⟩
  have oe:s.be c=(l,e,b):=by unfold J.be;rw[ha,hS]
  have eP:s.au c=l.map an:=by unfold J.au;rw[oe]
  have b9:=eB g p hS
  have jm:=ja g p hS
  have pG:=td g p hS
  refine⟨by rw[eP];exact b9.1,by rw[eP,List.length_map];exact jm,by rw[eP];exact pG,?_⟩
  have h1:=(pA (s.bE a c) _ 16 rfl).2 (by rw[rz g p];have:=p.fa;omega)
  rw[show bj (s.bE a c) 16=(l,e,b) from hS,rz g p] at h1
  rw[oe];exact h1
 rcases gC s c with h | h
 ·exact key 0 pa (by rw[h,Nat.zero_mul])
 ·exact key c pb (by rw[h,Nat.one_mul])
theorem nd(s:J)(c k:Nat)(h:Av s c k)(key:List UInt8):aG (aJ (s.au c) key):=lr _ _ (by have:=h.n;omega)
theorem NF {W : Int} {n k X : Nat} (s : J) (c : Nat) (g : av W n k s) (hW : W ≤ 1000000000000000) (pa : aC n k 0 c) (pb : aC n k c c) (z : Nat) (key : List UInt8) (vs va vb v0 v1 : Nat) : Spec Tryz.prog 90 [.ref 0 vs 3 0 0, .bs z key] [⟨vs, .obj [.ref 3 v0 7 0 0, .ref 1 va 3 0 0, .ref 2 vb 3 0 0]⟩, ⟨va, .obj [.ref 3 v0 7 0 0, .val (.int .i64 ((0 : Nat) : Int)), .val (.int .i64 (c : Int))]⟩, ⟨vb, .obj [.ref 3 v0 7 0 0, .val (.int .i64 (c : Int)), .val (.int .i64 (c : Int))]⟩, ⟨v0, .obj [.own 4 v1 1 0 s.l.length, .val (.int .i64 (X : Int)), .val (.int .i64 (s.k : Int)), .val (.int .i64 s.ar), .val (.int .i64 s.pt), .val (.bool s.dd), .val (.int .i64 s.wr)]⟩, ⟨v1, .bytes s.l⟩]
   (ak (.val (.int .i64 (s.del c key).1)) [⟨vs,.obj [.ref 3 v0 7 0 0,.ref 1 va 3 0 0,.ref 2 vb 3 0 0]⟩,⟨va,.obj [.ref 3 v0 7 0 0,.val (.int .i64 ((0:Nat):Int)),.val (.int .i64 (c:Int))]⟩,⟨vb,.obj [.ref 3 v0 7 0 0,.val (.int .i64 (c:Int)),.val (.int .i64 (c:Int))]⟩,⟨v0,.obj [.own 4 v1 1 0 (s.del c key).2.l.length,.val (.int .i64 (X:Int)),.val (.int .i64 ((s.del c key).2.k:Int)),.val (.int .i64 (s.del c key).2.ar),.val (.int .i64 (s.del c key).2.pt),.val (.bool (s.del c key).2.dd),.val (.int .i64 (s.del c key).2.wr)]⟩,⟨v1,.bytes (s.del c key).2.l⟩] []):=by
 have cH:=nc (X:=X) s c g pa pb vs va vb v0 v1
 unfold kc at cH
 refine aq aj Tryz.func90 rfl Tryz.ntmps90 Tryz.results90 ?_
 unfold J.del
 refine gg (k:= ?_)
 by_cases hd:s.dd=true
 ·rw[if_pos hd]
  refine ae (tz (W:=W) (n:=n) (k:=k) (X:=X) s c hd vs va vb v0 v1) Tryz.call135 5 [0,1,2,3,4] [0,0,0,0,0] [] ?_
  refine gg (k:= ?_)
  exact⟨_,rfl,rfl,trivial⟩
 rw[if_neg hd]
 have hd:s.dd=false:=by simpa using hd
 have cM:=g.im pa pb
 have fJ:=nd s c k cM key
 refine ae (ry (X:=X) s c g pa pb hd vs va vb v0 v1) Tryz.call135 (hX:=⟨fun _=>⟨trivial,trivial,trivial,trivial⟩,trivial,trivial,trivial,trivial⟩) 5 [0,1,2,3,4] [0,0,0,0,0] [] ?_
 refine gg (k:= ?_)
 refine ae (mc 0 z (s.au c) key (by have:=cM.n;omega)) Tryz.call133 (hon:=⟨fun _=>⟨trivial,trivial,trivial,trivial⟩,trivial,trivial⟩) 0 [] [] [] ?_
 by_cases hL:aJ (s.au c) key<0
 ·rw[if_pos hL]
  refine gg (k:= ?_)
  exact⟨_,rfl,rfl,trivial⟩
 rw[if_neg hL]
 refine gg (k:= ?_)
 rcases gC s c with aS | aS
 ·rw[if_neg (by omega)] at cH
  refine ae (cH) Tryz.call129 5 [0,1,2,3,4] [0,0,0,0,0] [] ?_
  (
 have hR:s.scan 0 c=s.be c:=by unfold J.be;rw[aS];congr 1;omega
 refine gg (k:= ?_)
 refine ae (kI (X:=X) s 0 c g (by omega) pa (aJ (s.au c) key) (nd s c k cM key) va v0 v1) Tryz.call134 3 [1,3,4] [0,0,0] [] ?_
 refine gg (k:= ?_)
 rw[show(s.aI c).1*c=0 by rw[aS];omega]
 exact⟨_,rfl,rfl,trivial⟩)
 ·rw[if_pos aS] at cH
  refine ae (cH) Tryz.call129 5 [0,1,2,3,4] [0,0,0,0,0] [] ?_
  (
 have hR:s.scan c c=s.be c:=by unfold J.be;rw[aS];congr 1;omega
 refine gg (k:= ?_)
 refine ae (kI (X:=X) s c c g (by omega) pb (aJ (s.au c) key) (nd s c k cM key) vb v0 v1) Tryz.call134 3 [2,3,4] [0,0,0] [] ?_
 refine gg (k:= ?_)
 rw[show(s.aI c).1*c=c by rw[aS];omega]
 exact⟨_,rfl,rfl,trivial⟩)
theorem NH {W : Int} {n k X : Nat} (s : J) (c : Nat) (g : av W n k s) (hW : W ≤ 100000000000000) (hX : s.l.length = X * s.k) (pa : aC n k 0 c) (pb : aC n k c c) (hd : s.dd = false) (z z' : Nat) (key val : List UInt8) (cE : key.length ≤ 140737488355328) (dp : val.length ≤ 140737488355328) (vs va vb v0 v1 : Nat) : Spec Tryz.prog 89 [.ref 0 vs 3 0 0, .bs z key, .bs z' val] [⟨vs, .obj [.ref 3 v0 7 0 0, .ref 1 va 3 0 0, .ref 2 vb 3 0 0]⟩, ⟨va, .obj [.ref 3 v0 7 0 0, .val (.int .i64 ((0 : Nat) : Int)), .val (.int .i64 (c : Int))]⟩, ⟨vb, .obj [.ref 3 v0 7 0 0, .val (.int .i64 (c : Int)), .val (.int .i64 (c : Int))]⟩, ⟨v0, .obj [.own 4 v1 1 0 s.l.length, .val (.int .i64 (X : Int)), .val (.int .i64 (s.k : Int)), .val (.int .i64 s.ar), .val (.int .i64 s.pt), .val (.bool s.dd), .val (.int .i64 s.wr)]⟩, ⟨v1, .bytes s.l⟩]
   (ak (.val (.int .i64 (s.set c key val).1)) [⟨vs,.obj [.ref 3 v0 7 0 0,.ref 1 va 3 0 0,.ref 2 vb 3 0 0]⟩,⟨va,.obj [.ref 3 v0 7 0 0,.val (.int .i64 ((0:Nat):Int)),.val (.int .i64 (c:Int))]⟩,⟨vb,.obj [.ref 3 v0 7 0 0,.val (.int .i64 (c:Int)),.val (.int .i64 (c:Int))]⟩,⟨v0,.obj [.own 4 v1 1 0 (s.set c key val).2.l.length,.val (.int .i64 (X:Int)),.val (.int .i64 ((s.set c key val).2.k:Int)),.val (.int .i64 (s.set c key val).2.ar),.val (.int .i64 (s.set c key val).2.pt),.val (.bool (s.set c key val).2.dd),.val (.int .i64 (s.set c key val).2.wr)]⟩,⟨v1,.bytes (s.set c key val).2.l⟩] []):=by
 have cu:=g.k
 have kJ:c≤4194304:=pa.ac.2
 have cC:=g.kk
 have fy:=pa.fit
 have FX:=g.len
 have cM:=g.im pa pb
 have Qt:(c:Int)*s.k≤4194304:=by rw[cu,←Int.natCast_mul];omega
 have Qu:(0:Int)≤(c:Int)*s.k:=Int.mul_nonneg (by omega) (by omega)
 have NI:=cM.e
 have Qv:((s.be c).2.1:Int)≤(c:Int)*s.k:=by rw[cu];exact_mod_cast NI
 have NJ:=cM.u
 have Aw:=(dR (s.au c)).length_le
 have lZ:=cM.n
 refine aq aj Tryz.func89 rfl Tryz.ntmps89 Tryz.results89 ?_
 by_cases fg:key.length<1∨255<key.length∨65536<val.length
 ·rw[show s.set c key val=(1,s) from if_pos fg]
  refine gg (k:= ?_)
  exact⟨_,rfl,rfl,trivial⟩
 have jy : s.set c key val = if (c : Int) * s.k - 16 < bw (bm (s.au c)) + (12 + key.length + val.length) then (5, s)
     else if(s.be c).2.2=false∨(c:Int)*s.k - 16+16 - ((s.be c).2.1:Int)<12+key.length+val.length then
      if(s.copy c (bm (s.au c))).1=0 then
       if(s.copy c (bm (s.au c))).2.dd then(6,(s.copy c (bm (s.au c))).2) else(s.copy c (bm (s.au c))).2.put c key val
      else s.copy c (bm (s.au c))
     else s.put c key val:=(if_neg fg).trans (if_neg (by rw[hd];decide))
 rw[jy]
 clear jy
 refine gg (k:= ?_)
 refine ae (ry (X:=X) s c g pa pb hd vs va vb v0 v1) Tryz.call135 (hX:=⟨fun _=>⟨trivial,trivial,trivial,trivial⟩,trivial,trivial,trivial,trivial⟩) 5 [0,1,2,3,4] [0,0,0,0,0] [] ?_
 refine gg (k:= ?_)
 refine aP (ru (key.length:Int) (val.length:Int) (by omega) (by omega)) Tryz.call76 [] ?_
 refine gg (k:= ?_)
 refine ae (tu (s.au c) cM.n) Tryz.call137 (hon:=⟨fun _=>⟨trivial,trivial,trivial,trivial⟩,trivial⟩) (hX:=fun _=>⟨trivial,trivial,trivial,trivial⟩) 0 [] [] [] ?_
 refine gg (k:= ?_)
 refine ae (FV 0 (bm (s.au c)) (by omega) (by omega)) Tryz.call136 (hon:=⟨fun _=>⟨trivial,trivial,trivial,trivial⟩,trivial⟩) 0 [] [] [] ?_
 refine gg (k:= ?_)
 refine ae (tw (X:=X) s c g pa vs va vb v0 v1) Tryz.call36 5 [0,1,2,3,4] [0,0,0,0,0] [] ?_
 by_cases jO:(c:Int)*s.k - 16<bw (bm (s.au c))+(12+key.length+val.length)
 ·rw[if_pos jO]
  refine gg (k:= ?_)
  exact⟨_,rfl,rfl,trivial⟩
 rw[if_neg jO]
 refine gg (k:= ?_)
 rcases Bool.eq_false_or_eq_true (s.be c).2.2 with ka | ka
 ·rw[ka]
  refine bD (k:= ?_)
  refine ae (tw (X:=X) s c g pa vs va vb v0 v1) Tryz.call36 5 [0,1,2,3,4] [0,0,0,0,0] [] ?_
  by_cases bW:(c:Int)*s.k - 16+16 - ((s.be c).2.1:Int)<12+key.length+val.length
  ·rw[if_pos (.inr bW)]
   refine gg (k:= ?_)
   rw[decide_eq_true bW]
   refine gg (k:= ?_)
   (
 have fN:=FW (X:=X) s c g (by omega) hX pa pb (bm (s.au c)) (fun r hr=>cM.b r ((dR (s.au c)).subset hr)) (by omega) (we s c) vs va vb v0 v1
 have gc:=g.copy c (bm (s.au c))
 refine ae (tu (s.au c) cM.n) Tryz.call137 (hon:=⟨fun _=>⟨trivial,trivial,trivial,trivial⟩,trivial⟩) (hX:=fun _=>⟨trivial,trivial,trivial,trivial⟩) 0 [] [] [] ?_
 refine gg (k:= ?_)
 generalize s.copy c (bm (s.au c))=T at fN gc⊢
 refine ae (fN) Tryz.call138 (hon:=⟨(by decide:0<5),fun _=>⟨trivial,trivial,trivial,trivial⟩,trivial⟩) 5 [0,1,2,3,4] [0,0,0,0,0] [] ?_
 by_cases hT:T.1=0
 ·rw[if_pos hT]
  refine gg (k:= ?_)
  rw[decide_eq_true hT]
  refine gg (k:= ?_)
  have fH:=nc (X:=X) T.2 c gc pa pb vs va vb v0 v1
  rcases Bool.eq_false_or_eq_true T.2.dd with cD | cD
  ·rw[if_pos cD]
   unfold kc at fH
   rcases gC T.2 c with aS | aS
   ·rw[if_neg (by omega)] at fH
    refine ae (fH) Tryz.call129 5 [0,1,2,3,4] [0,0,0,0,0] [] ?_
    refine gg (k:= ?_)
    refine ae (vY (X:=X) T.2 0 c gc pa cD va v0 v1) Tryz.call132 (hX:=⟨fun _=>⟨trivial,trivial,trivial,trivial⟩,trivial,trivial,trivial,trivial⟩) 3 [1,3,4] [0,0,0] [] ?_
    refine gg (k:= ?_)
    exact⟨_,rfl,rfl,trivial⟩
   ·rw[if_pos aS] at fH
    refine ae (fH) Tryz.call129 5 [0,1,2,3,4] [0,0,0,0,0] [] ?_
    refine gg (k:= ?_)
    refine ae (vY (X:=X) T.2 c c gc pb cD vb v0 v1) Tryz.call132 (hX:=⟨fun _=>⟨trivial,trivial,trivial,trivial⟩,trivial,trivial,trivial,trivial⟩) 3 [2,3,4] [0,0,0] [] ?_
    refine gg (k:= ?_)
    exact⟨_,rfl,rfl,trivial⟩
  ·rw[if_neg (by rw[cD];decide)]
   (
 unfold kc at fH
 rcases gC T.2 c with aS | aS
 ·rw[if_neg (by omega)] at fH
  refine ae (fH) Tryz.call129 5 [0,1,2,3,4] [0,0,0,0,0] [] ?_
  (
 have hR:J.scan T.2 0 c=J.be T.2 c:=by unfold J.be;rw[aS];congr 1;omega
 have gF:(J.be T.2 c).1.map an=J.au T.2 c:=rfl
 refine gg (k:= ?_)
 refine ae (kH (X:=X) T.2 0 c gc pa cD va v0 v1) Tryz.call132 (hX:=⟨fun _=>⟨trivial,trivial,trivial,trivial⟩,trivial,trivial,trivial,trivial⟩) 3 [1,3,4] [0,0,0] [] ?_
 rw[hR,gF]
 refine gg (k:= ?_)
 refine ae (mc 0 z (J.au T.2 c) key (by have:=((gc.im pa pb)).n;omega)) Tryz.call133 (hon:=⟨fun _=>⟨trivial,trivial,trivial,trivial⟩,trivial,trivial⟩) 0 [] [] [] ?_
 unfold J.put
 rw[show(J.aI T.2 c).1*c=0 by rw[aS];omega]
 have cf:=nd T.2 c k (gc.im pa pb) key
 have cg:=av.add gc 0 c key val
 have bX:=oc (X:=X) T.2 0 c gc (by omega) pa key val (by omega) (by omega) z z' va v0 v1
 generalize aJ (J.au T.2 c) key=LK at cf⊢
 generalize J.add T.2 0 c key val=A at bX cg⊢
 refine gg (k:= ?_)
 refine ae (bX) Tryz.call139 3 [1,3,4] [0,0,0] [] ?_
 by_cases hA:A.1=0
 ·rw[if_pos hA]
  by_cases hL:LK<0
  ·rw[if_neg (by omega)]
   refine gg (k:= ?_)
   rw[hA]
   exact⟨_,rfl,rfl,trivial⟩
  ·rw[if_pos (by omega)]
   refine gg (k:= ?_)
   rw[decide_eq_true hA,decide_eq_false hL]
   refine gg (k:= ?_)
   refine ae (kI (X:=X) A.2 0 c cg (by omega) pa LK cf va v0 v1) Tryz.call134 3 [1,3,4] [0,0,0] [] ?_
   refine gg (k:= ?_)
   exact⟨_,rfl,rfl,trivial⟩
 ·rw[if_neg hA]
  refine gg (k:= ?_)
  exact⟨_,rfl,rfl,trivial⟩)
 ·rw[if_pos aS] at fH
  refine ae (fH) Tryz.call129 5 [0,1,2,3,4] [0,0,0,0,0] [] ?_
  (
 have hR:J.scan T.2 c c=J.be T.2 c:=by unfold J.be;rw[aS];congr 1;omega
 have gF:(J.be T.2 c).1.map an=J.au T.2 c:=rfl
 refine gg (k:= ?_)
 refine ae (kH (X:=X) T.2 c c gc pb cD vb v0 v1) Tryz.call132 (hX:=⟨fun _=>⟨trivial,trivial,trivial,trivial⟩,trivial,trivial,trivial,trivial⟩) 3 [2,3,4] [0,0,0] [] ?_
 rw[hR,gF]
 refine gg (k:= ?_)
 refine ae (mc 0 z (J.au T.2 c) key (by have:=((gc.im pa pb)).n;omega)) Tryz.call133 (hon:=⟨fun _=>⟨trivial,trivial,trivial,trivial⟩,trivial,trivial⟩) 0 [] [] [] ?_
 unfold J.put
 rw[show(J.aI T.2 c).1*c=c by rw[aS];omega]
 have cf:=nd T.2 c k (gc.im pa pb) key
 have cg:=av.add gc c c key val
 have bX:=oc (X:=X) T.2 c c gc (by omega) pb key val (by omega) (by omega) z z' vb v0 v1
 generalize aJ (J.au T.2 c) key=LK at cf⊢
 generalize J.add T.2 c c key val=A at bX cg⊢
 refine gg (k:= ?_)
 refine ae (bX) Tryz.call139 3 [2,3,4] [0,0,0] [] ?_
 by_cases hA:A.1=0
 ·rw[if_pos hA]
  by_cases hL:LK<0
  ·rw[if_neg (by omega)]
   refine gg (k:= ?_)
   rw[hA]
   exact⟨_,rfl,rfl,trivial⟩
  ·rw[if_pos (by omega)]
   refine gg (k:= ?_)
   rw[decide_eq_true hA,decide_eq_false hL]
   refine gg (k:= ?_)
   refine ae (kI (X:=X) A.2 c c cg (by omega) pb LK cf vb v0 v1) Tryz.call134 3 [2,3,4] [0,0,0] [] ?_
   refine gg (k:= ?_)
   exact⟨_,rfl,rfl,trivial⟩
 ·rw[if_neg hA]
  refine gg (k:= ?_)
  exact⟨_,rfl,rfl,trivial⟩))
 ·rw[if_neg hT]
  refine gg (k:= ?_)
  exact⟨_,rfl,rfl,trivial⟩)
  ·rw[if_neg (by intro q;rcases q with q | q;exact absurd q (by decide);exact bW q)]
   refine gg (k:= ?_)
   rw[decide_eq_false bW]
   refine gg (k:= ?_)
   have tC:=nc (X:=X) s c g pa pb vs va vb v0 v1
   (
 unfold kc at tC
 rcases gC s c with aS | aS
 ·rw[if_neg (by omega)] at tC
  refine ae (tC) Tryz.call129 5 [0,1,2,3,4] [0,0,0,0,0] [] ?_
  (
 have hR:J.scan s 0 c=J.be s c:=by unfold J.be;rw[aS];congr 1;omega
 have gF:(J.be s c).1.map an=J.au s c:=rfl
 refine gg (k:= ?_)
 refine ae (kH (X:=X) s 0 c g pa hd va v0 v1) Tryz.call132 (hX:=⟨fun _=>⟨trivial,trivial,trivial,trivial⟩,trivial,trivial,trivial,trivial⟩) 3 [1,3,4] [0,0,0] [] ?_
 rw[hR,gF]
 refine gg (k:= ?_)
 refine ae (mc 0 z (J.au s c) key (by have:=(cM).n;omega)) Tryz.call133 (hon:=⟨fun _=>⟨trivial,trivial,trivial,trivial⟩,trivial,trivial⟩) 0 [] [] [] ?_
 unfold J.put
 rw[show(J.aI s c).1*c=0 by rw[aS];omega]
 have cf:=nd s c k cM key
 have cg:=av.add g 0 c key val
 have bX:=oc (X:=X) s 0 c g (by omega) pa key val (by omega) (by omega) z z' va v0 v1
 generalize aJ (J.au s c) key=LK at cf⊢
 generalize J.add s 0 c key val=A at bX cg⊢
 refine gg (k:= ?_)
 refine ae (bX) Tryz.call139 3 [1,3,4] [0,0,0] [] ?_
 by_cases hA:A.1=0
 ·rw[if_pos hA]
  by_cases hL:LK<0
  ·rw[if_neg (by omega)]
   refine gg (k:= ?_)
   rw[hA]
   exact⟨_,rfl,rfl,trivial⟩
  ·rw[if_pos (by omega)]
   refine gg (k:= ?_)
   rw[decide_eq_true hA,decide_eq_false hL]
   refine gg (k:= ?_)
   refine ae (kI (X:=X) A.2 0 c cg (by omega) pa LK cf va v0 v1) Tryz.call134 3 [1,3,4] [0,0,0] [] ?_
   refine gg (k:= ?_)
   exact⟨_,rfl,rfl,trivial⟩
 ·rw[if_neg hA]
  refine gg (k:= ?_)
  exact⟨_,rfl,rfl,trivial⟩)
 ·rw[if_pos aS] at tC
  refine ae (tC) Tryz.call129 5 [0,1,2,3,4] [0,0,0,0,0] [] ?_
  (
 have hR:J.scan s c c=J.be s c:=by unfold J.be;rw[aS];congr 1;omega
 have gF:(J.be s c).1.map an=J.au s c:=rfl
 refine gg (k:= ?_)
 refine ae (kH (X:=X) s c c g pb hd vb v0 v1) Tryz.call132 (hX:=⟨fun _=>⟨trivial,trivial,trivial,trivial⟩,trivial,trivial,trivial,trivial⟩) 3 [2,3,4] [0,0,0] [] ?_
 rw[hR,gF]
 refine gg (k:= ?_)
 refine ae (mc 0 z (J.au s c) key (by have:=(cM).n;omega)) Tryz.call133 (hon:=⟨fun _=>⟨trivial,trivial,trivial,trivial⟩,trivial,trivial⟩) 0 [] [] [] ?_
 unfold J.put
 rw[show(J.aI s c).1*c=c by rw[aS];omega]
 have cf:=nd s c k cM key
 have cg:=av.add g c c key val
 have bX:=oc (X:=X) s c c g (by omega) pb key val (by omega) (by omega) z z' vb v0 v1
 generalize aJ (J.au s c) key=LK at cf⊢
 generalize J.add s c c key val=A at bX cg⊢
 refine gg (k:= ?_)
 refine ae (bX) Tryz.call139 3 [2,3,4] [0,0,0] [] ?_
 by_cases hA:A.1=0
 ·rw[if_pos hA]
  by_cases hL:LK<0
  ·rw[if_neg (by omega)]
   refine gg (k:= ?_)
   rw[hA]
   exact⟨_,rfl,rfl,trivial⟩
  ·rw[if_pos (by omega)]
   refine gg (k:= ?_)
   rw[decide_eq_true hA,decide_eq_false hL]
   refine gg (k:= ?_)
   refine ae (kI (X:=X) A.2 c c cg (by omega) pb LK cf vb v0 v1) Tryz.call134 3 [2,3,4] [0,0,0] [] ?_
   refine gg (k:= ?_)
   exact⟨_,rfl,rfl,trivial⟩
 ·rw[if_neg hA]
  refine gg (k:= ?_)
  exact⟨_,rfl,rfl,trivial⟩))
 ·rw[ka,if_pos (.inl rfl)]
  refine gg (k:= ?_)
  intro _
  refine gg (k:= ?_)
  (
 have fN:=FW (X:=X) s c g (by omega) hX pa pb (bm (s.au c)) (fun r hr=>cM.b r ((dR (s.au c)).subset hr)) (by omega) (we s c) vs va vb v0 v1
 have gc:=g.copy c (bm (s.au c))
 refine ae (tu (s.au c) cM.n) Tryz.call137 (hon:=⟨fun _=>⟨trivial,trivial,trivial,trivial⟩,trivial⟩) (hX:=fun _=>⟨trivial,trivial,trivial,trivial⟩) 0 [] [] [] ?_
 refine gg (k:= ?_)
 generalize s.copy c (bm (s.au c))=T at fN gc⊢
 refine ae (fN) Tryz.call138 (hon:=⟨(by decide:0<5),fun _=>⟨trivial,trivial,trivial,trivial⟩,trivial⟩) 5 [0,1,2,3,4] [0,0,0,0,0] [] ?_
 by_cases hT:T.1=0
 ·rw[if_pos hT]
  refine gg (k:= ?_)
  rw[decide_eq_true hT]
  refine gg (k:= ?_)
  have fH:=nc (X:=X) T.2 c gc pa pb vs va vb v0 v1
  rcases Bool.eq_false_or_eq_true T.2.dd with cD | cD
  ·rw[if_pos cD]
   unfold kc at fH
   rcases gC T.2 c with aS | aS
   ·rw[if_neg (by omega)] at fH
    refine ae (fH) Tryz.call129 5 [0,1,2,3,4] [0,0,0,0,0] [] ?_
    refine gg (k:= ?_)
    refine ae (vY (X:=X) T.2 0 c gc pa cD va v0 v1) Tryz.call132 (hX:=⟨fun _=>⟨trivial,trivial,trivial,trivial⟩,trivial,trivial,trivial,trivial⟩) 3 [1,3,4] [0,0,0] [] ?_
    refine gg (k:= ?_)
    exact⟨_,rfl,rfl,trivial⟩
   ·rw[if_pos aS] at fH
    refine ae (fH) Tryz.call129 5 [0,1,2,3,4] [0,0,0,0,0] [] ?_
    refine gg (k:= ?_)
    refine ae (vY (X:=X) T.2 c c gc pb cD vb v0 v1) Tryz.call132 (hX:=⟨fun _=>⟨trivial,trivial,trivial,trivial⟩,trivial,trivial,trivial,trivial⟩) 3 [2,3,4] [0,0,0] [] ?_
    refine gg (k:= ?_)
    exact⟨_,rfl,rfl,trivial⟩
  ·rw[if_neg (by rw[cD];decide)]
   (
 unfold kc at fH
 rcases gC T.2 c with aS | aS
 ·rw[if_neg (by omega)] at fH
  refine ae (fH) Tryz.call129 5 [0,1,2,3,4] [0,0,0,0,0] [] ?_
  (
 have hR:J.scan T.2 0 c=J.be T.2 c:=by unfold J.be;rw[aS];congr 1;omega
 have gF:(J.be T.2 c).1.map an=J.au T.2 c:=rfl
 refine gg (k:= ?_)
 refine ae (kH (X:=X) T.2 0 c gc pa cD va v0 v1) Tryz.call132 (hX:=⟨fun _=>⟨trivial,trivial,trivial,trivial⟩,trivial,trivial,trivial,trivial⟩) 3 [1,3,4] [0,0,0] [] ?_
 rw[hR,gF]
 refine gg (k:= ?_)
 refine ae (mc 0 z (J.au T.2 c) key (by have:=((gc.im pa pb)).n;omega)) Tryz.call133 (hon:=⟨fun _=>⟨trivial,trivial,trivial,trivial⟩,trivial,trivial⟩) 0 [] [] [] ?_
 unfold J.put
 rw[show(J.aI T.2 c).1*c=0 by rw[aS];omega]
 have cf:=nd T.2 c k (gc.im pa pb) key
 have cg:=av.add gc 0 c key val
 have bX:=oc (X:=X) T.2 0 c gc (by omega) pa key val (by omega) (by omega) z z' va v0 v1
 generalize aJ (J.au T.2 c) key=LK at cf⊢
 generalize J.add T.2 0 c key val=A at bX cg⊢
 refine gg (k:= ?_)
 refine ae (bX) Tryz.call139 3 [1,3,4] [0,0,0] [] ?_
 by_cases hA:A.1=0
 ·rw[if_pos hA]
  by_cases hL:LK<0
  ·rw[if_neg (by omega)]
   refine gg (k:= ?_)
   rw[hA]
   exact⟨_,rfl,rfl,trivial⟩
  ·rw[if_pos (by omega)]
   refine gg (k:= ?_)
   rw[decide_eq_true hA,decide_eq_false hL]
   refine gg (k:= ?_)
   refine ae (kI (X:=X) A.2 0 c cg (by omega) pa LK cf va v0 v1) Tryz.call134 3 [1,3,4] [0,0,0] [] ?_
   refine gg (k:= ?_)
   exact⟨_,rfl,rfl,trivial⟩
 ·rw[if_neg hA]
  refine gg (k:= ?_)
  exact⟨_,rfl,rfl,trivial⟩)
 ·rw[if_pos aS] at fH
  refine ae (fH) Tryz.call129 5 [0,1,2,3,4] [0,0,0,0,0] [] ?_
  (
 have hR:J.scan T.2 c c=J.be T.2 c:=by unfold J.be;rw[aS];congr 1;omega
 have gF:(J.be T.2 c).1.map an=J.au T.2 c:=rfl
 refine gg (k:= ?_)
 refine ae (kH (X:=X) T.2 c c gc pb cD vb v0 v1) Tryz.call132 (hX:=⟨fun _=>⟨trivial,trivial,trivial,trivial⟩,trivial,trivial,trivial,trivial⟩) 3 [2,3,4] [0,0,0] [] ?_
 rw[hR,gF]
 refine gg (k:= ?_)
 refine ae (mc 0 z (J.au T.2 c) key (by have:=((gc.im pa pb)).n;omega)) Tryz.call133 (hon:=⟨fun _=>⟨trivial,trivial,trivial,trivial⟩,trivial,trivial⟩) 0 [] [] [] ?_
 unfold J.put
 rw[show(J.aI T.2 c).1*c=c by rw[aS];omega]
 have cf:=nd T.2 c k (gc.im pa pb) key
 have cg:=av.add gc c c key val
 have bX:=oc (X:=X) T.2 c c gc (by omega) pb key val (by omega) (by omega) z z' vb v0 v1
 generalize aJ (J.au T.2 c) key=LK at cf⊢
 generalize J.add T.2 c c key val=A at bX cg⊢
 refine gg (k:= ?_)
 refine ae (bX) Tryz.call139 3 [2,3,4] [0,0,0] [] ?_
 by_cases hA:A.1=0
 ·rw[if_pos hA]
  by_cases hL:LK<0
  ·rw[if_neg (by omega)]
   refine gg (k:= ?_)
   rw[hA]
   exact⟨_,rfl,rfl,trivial⟩
  ·rw[if_pos (by omega)]
   refine gg (k:= ?_)
   rw[decide_eq_true hA,decide_eq_false hL]
   refine gg (k:= ?_)
   refine ae (kI (X:=X) A.2 c c cg (by omega) pb LK cf vb v0 v1) Tryz.call134 3 [2,3,4] [0,0,0] [] ?_
   refine gg (k:= ?_)
   exact⟨_,rfl,rfl,trivial⟩
 ·rw[if_neg hA]
  refine gg (k:= ?_)
  exact⟨_,rfl,rfl,trivial⟩))
 ·rw[if_neg hT]
  refine gg (k:= ?_)
  exact⟨_,rfl,rfl,trivial⟩)
end Go.Proofs.YtpbpiehcchannaaGreatDoor
namespace Go.Proofs.YtpbpiehcchannaaGreatDoor
open Go.RowKit
set_option linter.unusedVariables false
set_option linter.unusedSimpArgs false
set_option maxRecDepth 100000
set_option maxHeartbeats 3000000
def J.kd(s:J)(c:Nat)(key:List UInt8):List UInt8×Bool×Int:=if s.dd then([],false,6) else if aJ (s.au c) key<0 then([],false,0) else(((s.au c).getD (aJ (s.au c) key).toNat bl).val,true,0)
def J.nf(s:J)(c:Nat):Int×Int:=if s.dd then(0,6) else((bw (bm (s.au c)):Nat),0)
theorem NK {W : Int} {n k X : Nat} (s : J) (c : Nat) (g : av W n k s) (pa : aC n k 0 c) (pb : aC n k c c) (vs va vb v0 v1 : Nat) : Spec Tryz.prog 92 [.ref 0 vs 3 0 0] [⟨vs, .obj [.ref 3 v0 7 0 0, .ref 1 va 3 0 0, .ref 2 vb 3 0 0]⟩, ⟨va, .obj [.ref 3 v0 7 0 0, .val (.int .i64 ((0 : Nat) : Int)), .val (.int .i64 (c : Int))]⟩, ⟨vb, .obj [.ref 3 v0 7 0 0, .val (.int .i64 (c : Int)), .val (.int .i64 (c : Int))]⟩, ⟨v0, .obj [.own 4 v1 1 0 s.l.length, .val (.int .i64 (X : Int)), .val (.int .i64 (s.k : Int)), .val (.int .i64 s.ar), .val (.int .i64 s.pt), .val (.bool s.dd), .val (.int .i64 s.wr)]⟩, ⟨v1, .bytes s.l⟩]
   (ak (.al [.val (.int .i64 (s.nf c).1),.val (.int .i64 (s.nf c).2)]) [⟨vs,.obj [.ref 3 v0 7 0 0,.ref 1 va 3 0 0,.ref 2 vb 3 0 0]⟩,⟨va,.obj [.ref 3 v0 7 0 0,.val (.int .i64 ((0:Nat):Int)),.val (.int .i64 (c:Int))]⟩,⟨vb,.obj [.ref 3 v0 7 0 0,.val (.int .i64 (c:Int)),.val (.int .i64 (c:Int))]⟩,⟨v0,.obj [.own 4 v1 1 0 s.l.length,.val (.int .i64 (X:Int)),.val (.int .i64 (s.k:Int)),.val (.int .i64 s.ar),.val (.int .i64 s.pt),.val (.bool s.dd),.val (.int .i64 s.wr)]⟩,⟨v1,.bytes s.l⟩] []):=by
 refine aq aj Tryz.func92 rfl Tryz.ntmps92 Tryz.results92 ?_
 unfold J.nf
 refine gg (k:= ?_)
 by_cases hd:s.dd=true
 ·rw[if_pos hd]
  refine ae (tz (W:=W) (n:=n) (k:=k) (X:=X) s c hd vs va vb v0 v1) Tryz.call135 5 [0,1,2,3,4] [0,0,0,0,0] [] ?_
  refine gg (k:= ?_)
  exact⟨_,rfl,rfl,trivial⟩
 rw[if_neg hd]
 have hd:s.dd=false:=by simpa using hd
 have cM:=g.im pa pb
 have NJ:=cM.u
 have Aw:=(dR (s.au c)).length_le
 have lZ:=cM.n
 refine ae (ry (X:=X) s c g pa pb hd vs va vb v0 v1) Tryz.call135 (hX:=⟨fun _=>⟨trivial,trivial,trivial,trivial⟩,trivial,trivial,trivial,trivial⟩) 5 [0,1,2,3,4] [0,0,0,0,0] [] ?_
 refine gg (k:= ?_)
 refine ae (tu (s.au c) cM.n) Tryz.call137 (hon:=⟨fun _=>⟨trivial,trivial,trivial,trivial⟩,trivial⟩) (hX:=fun _=>⟨trivial,trivial,trivial,trivial⟩) 0 [] [] [] ?_
 refine gg (k:= ?_)
 refine ae (FV 0 (bm (s.au c)) (by omega) (by omega)) Tryz.call136 (hon:=⟨fun _=>⟨trivial,trivial,trivial,trivial⟩,trivial⟩) 0 [] [] [] ?_
 refine gg (k:= ?_)
 exact⟨_,rfl,rfl,trivial⟩
theorem NL {W : Int} {n k X : Nat} (s : J) (c : Nat) (g : av W n k s) (pa : aC n k 0 c) (pb : aC n k c c) (z : Nat) (key : List UInt8) (vs va vb v0 v1 : Nat) : Spec Tryz.prog 88 [.ref 0 vs 3 0 0, .bs z key] [⟨vs, .obj [.ref 3 v0 7 0 0, .ref 1 va 3 0 0, .ref 2 vb 3 0 0]⟩, ⟨va, .obj [.ref 3 v0 7 0 0, .val (.int .i64 ((0 : Nat) : Int)), .val (.int .i64 (c : Int))]⟩, ⟨vb, .obj [.ref 3 v0 7 0 0, .val (.int .i64 (c : Int)), .val (.int .i64 (c : Int))]⟩, ⟨v0, .obj [.own 4 v1 1 0 s.l.length, .val (.int .i64 (X : Int)), .val (.int .i64 (s.k : Int)), .val (.int .i64 s.ar), .val (.int .i64 s.pt), .val (.bool s.dd), .val (.int .i64 s.wr)]⟩, ⟨v1, .bytes s.l⟩]
   (ak (.al [.bs 0 (s.kd c key).1,.val (.bool (s.kd c key).2.1),.val (.int .i64 (s.kd c key).2.2)]) [⟨vs,.obj [.ref 3 v0 7 0 0,.ref 1 va 3 0 0,.ref 2 vb 3 0 0]⟩,⟨va,.obj [.ref 3 v0 7 0 0,.val (.int .i64 ((0:Nat):Int)),.val (.int .i64 (c:Int))]⟩,⟨vb,.obj [.ref 3 v0 7 0 0,.val (.int .i64 (c:Int)),.val (.int .i64 (c:Int))]⟩,⟨v0,.obj [.own 4 v1 1 0 s.l.length,.val (.int .i64 (X:Int)),.val (.int .i64 (s.k:Int)),.val (.int .i64 s.ar),.val (.int .i64 s.pt),.val (.bool s.dd),.val (.int .i64 s.wr)]⟩,⟨v1,.bytes s.l⟩] []):=by
 have oB:∀e:Int,Spec Tryz.prog 88 [.ref 0 vs 3 0 0,.bs z key] [⟨vs,.obj [.ref 3 v0 7 0 0,.ref 1 va 3 0 0,.ref 2 vb 3 0 0]⟩,⟨va,.obj [.ref 3 v0 7 0 0,.val (.int .i64 ((0:Nat):Int)),.val (.int .i64 (c:Int))]⟩,⟨vb,.obj [.ref 3 v0 7 0 0,.val (.int .i64 (c:Int)),.val (.int .i64 (c:Int))]⟩,⟨v0,.obj [.own 4 v1 1 0 s.l.length,.val (.int .i64 (X:Int)),.val (.int .i64 (s.k:Int)),.val (.int .i64 s.ar),.val (.int .i64 s.pt),.val (.bool s.dd),.val (.int .i64 s.wr)]⟩,⟨v1,.bytes s.l⟩] (ak (.al [.val (.slice none 0 0),.val (.bool false),.val (.int .i64 e)]) [⟨vs,.obj [.ref 3 v0 7 0 0,.ref 1 va 3 0 0,.ref 2 vb 3 0 0]⟩,⟨va,.obj [.ref 3 v0 7 0 0,.val (.int .i64 ((0:Nat):Int)),.val (.int .i64 (c:Int))]⟩,⟨vb,.obj [.ref 3 v0 7 0 0,.val (.int .i64 (c:Int)),.val (.int .i64 (c:Int))]⟩,⟨v0,.obj [.own 4 v1 1 0 s.l.length,.val (.int .i64 (X:Int)),.val (.int .i64 (s.k:Int)),.val (.int .i64 s.ar),.val (.int .i64 s.pt),.val (.bool s.dd),.val (.int .i64 s.wr)]⟩,⟨v1,.bytes s.l⟩] [])→Spec Tryz.prog 88 [.ref 0 vs 3 0 0,.bs z key] [⟨vs,.obj [.ref 3 v0 7 0 0,.ref 1 va 3 0 0,.ref 2 vb 3 0 0]⟩,⟨va,.obj [.ref 3 v0 7 0 0,.val (.int .i64 ((0:Nat):Int)),.val (.int .i64 (c:Int))]⟩,⟨vb,.obj [.ref 3 v0 7 0 0,.val (.int .i64 (c:Int)),.val (.int .i64 (c:Int))]⟩,⟨v0,.obj [.own 4 v1 1 0 s.l.length,.val (.int .i64 (X:Int)),.val (.int .i64 (s.k:Int)),.val (.int .i64 s.ar),.val (.int .i64 s.pt),.val (.bool s.dd),.val (.int .i64 s.wr)]⟩,⟨v1,.bytes s.l⟩] (ak (.al [.bs 0 [],.val (.bool false),.val (.int .i64 e)]) [⟨vs,.obj [.ref 3 v0 7 0 0,.ref 1 va 3 0 0,.ref 2 vb 3 0 0]⟩,⟨va,.obj [.ref 3 v0 7 0 0,.val (.int .i64 ((0:Nat):Int)),.val (.int .i64 (c:Int))]⟩,⟨vb,.obj [.ref 3 v0 7 0 0,.val (.int .i64 (c:Int)),.val (.int .i64 (c:Int))]⟩,⟨v0,.obj [.own 4 v1 1 0 s.l.length,.val (.int .i64 (X:Int)),.val (.int .i64 (s.k:Int)),.val (.int .i64 s.ar),.val (.int .i64 s.pt),.val (.bool s.dd),.val (.int .i64 s.wr)]⟩,⟨v1,.bytes s.l⟩] []):=
  fun e h=>br h trivial (AF.al (af.cons AF.nil (af.cons AF.same (af.cons AF.same af.nil)))) ⟨rfl,BF.same,rfl,BF.same,rfl,BF.same,rfl,BF.same,rfl,BF.same,trivial⟩
 unfold J.kd
 by_cases hd:s.dd=true
 ·rw[if_pos hd]
  refine oB 6 ?_
  refine aq aj Tryz.func88 rfl Tryz.ntmps88 Tryz.results88 ?_
  refine gg (k:= ?_)
  refine ae (tz (W:=W) (n:=n) (k:=k) (X:=X) s c hd vs va vb v0 v1) Tryz.call135 5 [0,1,2,3,4] [0,0,0,0,0] [] ?_
  refine gg (k:= ?_)
  exact⟨_,rfl,rfl,trivial⟩
 rw[if_neg hd]
 have hd:s.dd=false:=by simpa using hd
 have cM:=g.im pa pb
 have lZ:=cM.n
 by_cases hL:aJ (s.au c) key<0
 ·rw[if_pos hL]
  refine oB 0 ?_
  refine aq aj Tryz.func88 rfl Tryz.ntmps88 Tryz.results88 ?_
  refine gg (k:= ?_)
  refine ae (ry (X:=X) s c g pa pb hd vs va vb v0 v1) Tryz.call135 (hX:=⟨fun _=>⟨trivial,trivial,trivial,trivial⟩,trivial,trivial,trivial,trivial⟩) 5 [0,1,2,3,4] [0,0,0,0,0] [] ?_
  refine gg (k:= ?_)
  refine ae (mc 0 z (s.au c) key (by omega)) Tryz.call133 (hon:=⟨fun _=>⟨trivial,trivial,trivial,trivial⟩,trivial,trivial⟩) 0 [] [] [] ?_
  refine gg (k:= ?_)
  exact⟨_,rfl,rfl,trivial⟩
 rw[if_neg hL]
 obtain⟨j,hj⟩:∃j:Nat,aJ (s.au c) key=(j:Int):=⟨(aJ (s.au c) key).toNat,by omega⟩
 obtain⟨j1,_,_⟩:=mT _ _ _ _ hj
 have iI:=(cM.b _ (List.getElem_mem j1)).2
 have Ax:(s.au c).getD j bl=(s.au c)[j]:=by rw[List.getD_eq_getElem?_getD,List.getElem?_eq_getElem j1];rfl
 rw[hj,Int.toNat_natCast,Ax]
 have h:Spec Tryz.prog 88 [.ref 0 vs 3 0 0,.bs z key] [⟨vs,.obj [.ref 3 v0 7 0 0,.ref 1 va 3 0 0,.ref 2 vb 3 0 0]⟩,⟨va,.obj [.ref 3 v0 7 0 0,.val (.int .i64 ((0:Nat):Int)),.val (.int .i64 (c:Int))]⟩,⟨vb,.obj [.ref 3 v0 7 0 0,.val (.int .i64 (c:Int)),.val (.int .i64 (c:Int))]⟩,⟨v0,.obj [.own 4 v1 1 0 s.l.length,.val (.int .i64 (X:Int)),.val (.int .i64 (s.k:Int)),.val (.int .i64 s.ar),.val (.int .i64 s.pt),.val (.bool s.dd),.val (.int .i64 s.wr)]⟩,⟨v1,.bytes s.l⟩] (ak (.al [.own 32 2 1 0 (0+(s.au c)[j].val.length),.val (.bool true),.val (.int .i64 0)]) [⟨vs,.obj [.ref 3 v0 7 0 0,.ref 1 va 3 0 0,.ref 2 vb 3 0 0]⟩,⟨va,.obj [.ref 3 v0 7 0 0,.val (.int .i64 ((0:Nat):Int)),.val (.int .i64 (c:Int))]⟩,⟨vb,.obj [.ref 3 v0 7 0 0,.val (.int .i64 (c:Int)),.val (.int .i64 (c:Int))]⟩,⟨v0,.obj [.own 4 v1 1 0 s.l.length,.val (.int .i64 (X:Int)),.val (.int .i64 (s.k:Int)),.val (.int .i64 s.ar),.val (.int .i64 s.pt),.val (.bool s.dd),.val (.int .i64 s.wr)]⟩,⟨v1,.bytes s.l⟩] [(32,⟨2,.bytes (s.au c)[j].val⟩)]):=by
  refine aq aj Tryz.func88 rfl Tryz.ntmps88 Tryz.results88 ?_
  refine gg (k:= ?_)
  refine ae (ry (X:=X) s c g pa pb hd vs va vb v0 v1) Tryz.call135 (hX:=⟨fun _=>⟨trivial,trivial,trivial,trivial⟩,trivial,trivial,trivial,trivial⟩) 5 [0,1,2,3,4] [0,0,0,0,0] [] ?_
  refine gg (k:= ?_)
  refine ae (mc 0 z (s.au c) key (by omega)) Tryz.call133 (hon:=⟨fun _=>⟨trivial,trivial,trivial,trivial⟩,trivial,trivial⟩) 0 [] [] [] ?_
  rw[hj]
  generalize (s.au c)[j]=y at iI Ax⊢
  obtain⟨yk,yv,yl⟩:=y
  simp only at iI
  refine gg (k:= ?_)
  simp only[Int.toNat_natCast,Ax]
  refine gg (k:= ?_)
  conv=>whnf
  refine⟨yv,?_⟩
  conv=>whnf
  refine And.intro ⟨rfl,trivial,rfl,rfl,rfl,rfl,rfl,rfl,(by show(0+yv.length)*1≤_;omega),by decide⟩ ?_
  refine gg (k:= ?_)
  exact⟨_,rfl,rfl,rfl,trivial⟩
 exact br h (by simp[ef]) (AF.al (af.cons (AF.own rfl (by rw[Nat.zero_add])) (af.cons AF.same (af.cons AF.same af.nil)))) ⟨rfl,BF.same,rfl,BF.same,rfl,BF.same,rfl,BF.same,rfl,BF.same,trivial⟩
end Go.Proofs.YtpbpiehcchannaaGreatDoor
