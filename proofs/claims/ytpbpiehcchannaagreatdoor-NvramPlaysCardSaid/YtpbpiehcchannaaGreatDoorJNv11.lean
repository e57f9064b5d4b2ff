/- Walks of nvram: Set. Conditions: none. -/
import Derived.Test.YtpbpiehcchannaaGreatDoorJNv10
namespace Go.Proofs.YtpbpiehcchannaaGreatDoor
open Go.RowKit
set_option linter.unusedVariables false
set_option linter.unusedSimpArgs false
set_option maxRecDepth 100000
set_option maxHeartbeats 1500000
theorem av.b6{B:Int}{n k:Nat}{s:J}(g:av B n k s)(a c:Nat)(gen:Int)(la:List RK):av (B+c+13+la.length*65804) n k (s.b6 a c gen la).2:=by
 unfold J.b6
 have gf:=g.format a c gen
 split
 ·have ga:=gf.bf a c la
  split
  ·exact(ga.prog _ _).mono (by simp only[List.length_singleton];omega)
  ·exact ga.mono (by omega)
 ·exact gf.mono (by omega)
theorem av.copy{B:Int}{n k:Nat}{s:J}(g:av B n k s)(c:Nat)(la:List RK):av (B+c+13+la.length*65804) n k (s.copy c la).2:=by
 unfold J.copy
 split
 ·exact g.mono (by omega)
 ·exact g.b6 _ _ _ _
theorem lr(l:List RK)(key:List UInt8)(h:l.length≤140737488355328):aG (aJ l key):=by
 have:=n4 l key l.length
 unfold aJ aG
 omega
theorem rz{W:Int}{n k:Nat}{s:J}{a c:Nat}(g:av W n k s)(p:aC n k a c):(s.bE a c).length=c*k:=by
 have:=p.fit
 unfold J.bE
 rw[List.length_take,List.length_drop,g.l,g.k];omega
theorem gC(s:J)(c:Nat):(s.aI c).1=0∨(s.aI c).1=1:=by
 unfold J.aI
 split
 ·exact .inr rfl
 ·exact .inl rfl
theorem put_eq{s:J}{c i a:Nat}(hi:(s.aI c).1=i)(ha:i*c=a){l:List Rc}{e:Nat}{b:Bool}(hS:s.scan a c=(l,e,b))(key val:List UInt8):s.put c key val=if(s.add a c key val).1=0 then(if 0≤aJ (l.map an) key then(s.add a c key val).2.kill a c (aJ (l.map an) key) else(0,(s.add a c key val).2)) else s.add a c key val:=by
 unfold J.put J.au J.be
 rw[hi,ha,hS]
theorem Nn {W : Int} {n k : Nat} (s : J) (c : Nat) (g : av W n k s) (hW : W ≤ 1000000000000000) (pa : aC n k 0 c) (pb : aC n k c c) (hd : s.dd = false) (hi : (s.aI c).1 = 0) (z z' : Nat) (key val : List UInt8) (cE : key.length ≤ 140737488355328) (dp : val.length ≤ 140737488355328) (vs va vb v0 v1 : Nat) : Spec Tryz.prog 22 [.ref 0 vs 3 0 0, .bs z key, .bs z' val] [⟨vs, .obj [.ref 3 v0 6 0 0, .ref 1 va 3 0 0, .ref 2 vb 3 0 0]⟩, ⟨va, .obj [.ref 3 v0 6 0 0, .val (.int .i64 ((0 : Nat) : Int)), .val (.int .i64 (c : Int))]⟩, ⟨vb, .obj [.ref 3 v0 6 0 0, .val (.int .i64 (c : Int)), .val (.int .i64 (c : Int))]⟩, ⟨v0, .obj [.own 4 v1 1 0 s.l.length, .val (.int .i64 (s.k : Int)), .val (.int .i64 s.ar), .val (.int .i64 s.pt), .val (.bool s.dd), .val (.int .i64 s.wr)]⟩, ⟨v1, .bytes s.l⟩]
   (ak (.val (.int .i64 (s.set c key val).1)) [⟨vs,.obj [.ref 3 v0 6 0 0,.ref 1 va 3 0 0,.ref 2 vb 3 0 0]⟩,⟨va,.obj [.ref 3 v0 6 0 0,.val (.int .i64 ((0:Nat):Int)),.val (.int .i64 (c:Int))]⟩,⟨vb,.obj [.ref 3 v0 6 0 0,.val (.int .i64 (c:Int)),.val (.int .i64 (c:Int))]⟩,⟨v0,.obj [.own 4 v1 1 0 (s.set c key val).2.l.length,.val (.int .i64 ((s.set c key val).2.k:Int)),.val (.int .i64 (s.set c key val).2.ar),.val (.int .i64 (s.set c key val).2.pt),.val (.bool (s.set c key val).2.dd),.val (.int .i64 (s.set c key val).2.wr)]⟩,⟨v1,.bytes (s.set c key val).2.l⟩] []):=by
 obtain⟨l,e,b,hS⟩:∃l e b,s.scan 0 c=(l,e,b):=⟨_,_,_,rfl⟩
 have oe:s.be c=(l,e,b):=by unfold J.be;rw[hi,show 0*c=0 by omega,hS]
 have eP:s.au c=l.map an:=by unfold J.au;rw[oe]
 have b9:=eB g pa hS
 have jm:=ja g pa hS
 have pG:=td g pa hS
 have ff:=l8 s c g pa pb hd hi l e b hS vs va vb v0 v1
 have cu:=g.k
 have kJ:c≤4194304:=pa.ac.2
 have cC:=g.kk
 have fy:=pa.fit
 have FX:=g.len
 have gM:e≤c*k:=by
  have h1:=(pA (s.bE 0 c) _ 16 rfl).2 (by rw[rz g pa];have:=pa.fa;omega)
  rw[show bj (s.bE 0 c) 16=(l,e,b) from hS,rz g pa] at h1
  exact h1
 refine aq aj Tryz.func22 rfl Tryz.ntmps22 Tryz.results22 ?_
 have jy:s.set c key val=if key.length<1∨255<key.length∨65536<val.length then(1,s) else if(c:Int)*s.k - 16<bw (bm (l.map an))+(12+key.length+val.length) then(5,s) else if b=false∨(c:Int)*s.k - 16+16 - (e:Int)<12+key.length+val.length then(if(s.copy c (bm (l.map an))).1=0 then(if(s.copy c (bm (l.map an))).2.dd=true then(6,(s.copy c (bm (l.map an))).2) else(s.copy c (bm (l.map an))).2.put c key val) else s.copy c (bm (l.map an))) else s.put c key val:=by
  unfold J.set
  rw[hd,oe,eP]
  simp only[Bool.false_eq_true,if_false]
 rw[jy]
 clear jy
 by_cases fg:key.length<1∨255<key.length∨65536<val.length
 ·rw[if_pos fg]
  refine gg (k:= ?_)
  exact⟨_,rfl,rfl,trivial⟩
 rw[if_neg fg]
 refine gg (k:= ?_)
 refine ae (ff) Tryz.call77 (he:=⟨fun _=>⟨rfl,rfl,trivial,trivial⟩,trivial,fun _=>⟨rfl,rfl,trivial,trivial⟩,trivial⟩) 5 [0,1,2,3,4,0,0,0,0,0,0,0,0,0,0,0,0,0,0,0,0,0,0,0,0,0,0,0,0,0,40,41,42] [0,0,0,0,0,0,0,0,0,0,0,0,0,0,0,0,0,0,0,0,0,0,0,0,0,0,0,0,0,0,1,1,1] [30,31,32] ?_
 refine gg (k:= ?_)
 refine aP (qM (key.length:Int) (val.length:Int) (by omega) (by omega)) Tryz.call78 [] ?_
 refine gg (k:= ?_)
 refine ae (vK (ct.kept l) (by omega) (by have:=(dR (l.map an)).length_le;rw[List.length_map] at this;omega) s 0 c l (e:Int) b (cB l l.length).length 4 4 (l.length+4) va v0 v1 rfl) Tryz.call79 (hrows:=⟨⟨fun _=>⟨(by show 1<6;decide),(by show 1<6;decide),trivial,trivial⟩,rfl⟩,⟨trivial,rfl⟩,⟨fun _=>⟨(by show 1<6;decide),(by show 1<6;decide),trivial,trivial⟩,rfl⟩,⟨⟨(by show 4<6;decide),trivial,trivial,trivial⟩,rfl⟩,⟨⟨(by show 5<6;decide),trivial,trivial,trivial,trivial,trivial,trivial⟩,rfl⟩,⟨trivial,rfl⟩,trivial⟩) (hr2:=⟨fun _=>⟨rfl,rfl,trivial,trivial⟩,trivial,fun _=>⟨rfl,rfl,trivial,trivial⟩,⟨rfl,trivial,trivial,trivial⟩,⟨rfl,trivial,trivial,trivial,trivial,trivial,trivial⟩,trivial,trivial⟩) 6 [42,41,40,1,3,4] [0,0,0,0,0,0] [] ?_
 refine gg (k:= ?_)
 refine ae (od s c g pa vs va vb v0 v1) Tryz.call27 5 [0,1,2,3,4] [0,0,0,0,0] [] ?_
 by_cases jO:(c:Int)*s.k - 16<bw (bm (l.map an))+(12+key.length+val.length)
 ·rw[if_pos jO]
  refine gg (k:= ?_)
  exact⟨_,rfl,rfl,trivial⟩
 rw[if_neg jO]
 refine gg (k:= ?_)
 (refine ax (k:= ?_))
 refine bz (p:=5) aj hm [0,1,3,7,15,15,47,111,15,271,1007,2047,4095] [⟨0,true,false,[49,50,51,52,53,54,55,56,57,58,59,60]⟩,⟨1,true,false,[50,51,52,53,54,55,56,57,58,59,60]⟩,⟨2,false,false,[]⟩,⟨3,false,false,[]⟩,⟨4,false,false,[]⟩,⟨5,false,false,[]⟩,⟨8,true,false,[52,53,54,55,57,58,59,60]⟩,⟨9,true,false,[52,53,54,55,58,59,60]⟩,⟨6,true,false,[52,55,56,57,58,59,60]⟩,⟨7,false,false,[]⟩,⟨10,false,false,[]⟩,⟨11,false,false,[]⟩,⟨12,false,false,[]⟩] (by kernel_rfl) ?_
 cases b with
 | false=>
  rw[if_pos (.inl rfl)]
  refine gg (k:= ?_)
  intro _
  refine gg (k:= ?_)
  (
 have fN:=Gf s c g (by omega) pa pb hi (ct.kept l) (fun r hr=>b9.1 r ((dR (l.map an)).subset hr)) (by have:=(dR (l.map an)).length_le;rw[List.length_map] at this;omega) l (e:Int) false vs va vb v0 v1 4 4 (l.length+4) (cB l l.length).length rfl
 have gc:=g.copy c (bm (l.map an))
 have pL:=(dR (l.map an)).length_le
 rw[List.length_map] at pL
 generalize s.copy c (bm (l.map an))=T at fN gc⊢
 refine ae (fN) Tryz.call80 (hrows:=⟨⟨⟨(by show 3<8;decide),(by show 1<8;decide),(by show 2<8;decide),trivial⟩,rfl⟩,⟨⟨(by show 3<8;decide),trivial,trivial,trivial⟩,rfl⟩,⟨⟨(by show 3<8;decide),trivial,trivial,trivial⟩,rfl⟩,⟨⟨(by show 4<8;decide),trivial,trivial,trivial,trivial,trivial,trivial⟩,rfl⟩,⟨trivial,rfl⟩,⟨fun _=>⟨(by show 6<8;decide),(by show 6<8;decide),trivial,trivial⟩,rfl⟩,⟨trivial,rfl⟩,⟨fun _=>⟨(by show 6<8;decide),(by show 6<8;decide),trivial,trivial⟩,rfl⟩,trivial⟩) (hr2:=⟨⟨rfl,rfl,rfl,trivial⟩,⟨rfl,trivial,trivial,trivial⟩,⟨rfl,trivial,trivial,trivial⟩,⟨rfl,trivial,trivial,trivial,trivial,trivial,trivial⟩,trivial,fun _=>⟨rfl,rfl,trivial,trivial⟩,trivial,fun _=>⟨rfl,rfl,trivial,trivial⟩,trivial⟩) 8 [0,1,2,3,4,42,41,40] [0,0,0,0,0,0,0,0] [] ?_
 by_cases hT:T.1=0
 ·rw[if_pos hT]
  refine gg (k:= ?_)
  rw[decide_eq_true hT]
  refine gg (k:= ?_)
  rcases Bool.eq_false_or_eq_true T.2.dd with cD | cD
  ·rw[if_pos cD]
   refine ae (mR T.2 c cD vs va vb v0 v1) Tryz.call77 5 [0,1,2,3,4] [0,0,0,0,0] [] ?_
   refine gg (k:= ?_)
   exact⟨_,rfl,rfl,trivial⟩
  ·rw[if_neg (by rw[cD];simp)]
   rcases gC T.2 c with c7 | c7
   ·obtain⟨l2,e2,b2,dJ⟩:∃l e b,T.2.scan 0 c=(l,e,b):=⟨_,_,_,rfl⟩
    rw[put_eq c7 (Nat.zero_mul c) dJ]
    have fh:=eB gc pa dJ
    refine ae (l8 T.2 c gc pa pb cD c7 l2 e2 b2 dJ vs va vb v0 v1) Tryz.call77 (he:=⟨fun _=>⟨rfl,rfl,trivial,trivial⟩,trivial,fun _=>⟨rfl,rfl,trivial,trivial⟩,trivial⟩) 5 [0,1,2,3,4,0,0,0,0,0,0,0,0,0,0,0,0,0,0,0,0,0,0,0,0,0,0,0,0,0,43,44,45] [0,0,0,0,0,0,0,0,0,0,0,0,0,0,0,0,0,0,0,0,0,0,0,0,0,0,0,0,0,0,1,1,1] [30,31,32] ?_
    refine gg (k:= ?_)
    (
 have bX:=lh T.2 0 c gc (by omega) pa key val cE dp z z' va v0 v1
 have cg:=av.add gc 0 c key val
 generalize J.add T.2 0 c key val=A at bX cg⊢
 refine ae (bX) Tryz.call81 3 [1,3,4] [0,0,0] [] ?_
 by_cases hA:A.1=0
 ·rw[if_pos hA]
  refine gg (k:= ?_)
  rw[decide_eq_true hA]
  refine gg (k:= ?_)
  refine ae (iF (ct.of l2) fh z key l2.length (l2.length+4) 4 (cP l2 0).symm) Tryz.call82 (hrows:=⟨⟨fun _=>⟨Nat.lt_succ_self 1,Nat.lt_succ_self 1,trivial,trivial⟩,rfl⟩,⟨trivial,rfl⟩,trivial⟩) (hr2:=⟨fun _=>⟨rfl,rfl,trivial,trivial⟩,trivial,trivial⟩) 2 [43,44] [0,0] [] ?_
  have cf:aG (aJ (l2.map an) key):=(lr _ _ fh.2)
  generalize aJ (l2.map an) key=LK at cf⊢
  by_cases hL:0≤LK
  ·rw[if_pos hL]
   refine gg (k:= ?_)
   rw[decide_eq_true hL]
   refine gg (k:= ?_)
   refine ae (jC A.2 0 c cg (by omega) pa LK cf va v0 v1) Tryz.call83 3 [1,3,4] [0,0,0] [] ?_
   refine gg (k:= ?_)
   exact⟨_,rfl,rfl,trivial⟩
  ·rw[if_neg hL]
   refine gg (k:= ?_)
   exact⟨_,rfl,rfl,trivial⟩
 ·rw[if_neg hA]
  refine gg (k:= ?_)
  exact⟨_,rfl,rfl,trivial⟩)
   ·obtain⟨l2,e2,b2,dJ⟩:∃l e b,T.2.scan c c=(l,e,b):=⟨_,_,_,rfl⟩
    rw[put_eq c7 (Nat.one_mul c) dJ]
    have fh:=eB gc pb dJ
    refine ae (l9 T.2 c gc pa pb cD c7 l2 e2 b2 dJ vs va vb v0 v1) Tryz.call77 (he:=⟨fun _=>⟨rfl,rfl,trivial,trivial⟩,trivial,fun _=>⟨rfl,rfl,trivial,trivial⟩,trivial⟩) 5 [0,1,2,3,4,0,0,0,0,0,0,0,0,0,0,0,0,0,0,0,0,0,0,0,0,0,0,0,0,0,43,44,45] [0,0,0,0,0,0,0,0,0,0,0,0,0,0,0,0,0,0,0,0,0,0,0,0,0,0,0,0,0,0,1,1,1] [30,31,32] ?_
    refine gg (k:= ?_)
    (
 have bX:=lh T.2 c c gc (by omega) pb key val cE dp z z' vb v0 v1
 have cg:=av.add gc c c key val
 generalize J.add T.2 c c key val=A at bX cg⊢
 refine ae (bX) Tryz.call81 3 [2,3,4] [0,0,0] [] ?_
 by_cases hA:A.1=0
 ·rw[if_pos hA]
  refine gg (k:= ?_)
  rw[decide_eq_true hA]
  refine gg (k:= ?_)
  refine ae (iF (ct.of l2) fh z key l2.length (l2.length+4) 4 (cP l2 0).symm) Tryz.call82 (hrows:=⟨⟨fun _=>⟨Nat.lt_succ_self 1,Nat.lt_succ_self 1,trivial,trivial⟩,rfl⟩,⟨trivial,rfl⟩,trivial⟩) (hr2:=⟨fun _=>⟨rfl,rfl,trivial,trivial⟩,trivial,trivial⟩) 2 [43,44] [0,0] [] ?_
  have cf:aG (aJ (l2.map an) key):=(lr _ _ fh.2)
  generalize aJ (l2.map an) key=LK at cf⊢
  by_cases hL:0≤LK
  ·rw[if_pos hL]
   refine gg (k:= ?_)
   rw[decide_eq_true hL]
   refine gg (k:= ?_)
   refine ae (jC A.2 c c cg (by omega) pb LK cf vb v0 v1) Tryz.call83 3 [2,3,4] [0,0,0] [] ?_
   refine gg (k:= ?_)
   exact⟨_,rfl,rfl,trivial⟩
  ·rw[if_neg hL]
   refine gg (k:= ?_)
   exact⟨_,rfl,rfl,trivial⟩
 ·rw[if_neg hA]
  refine gg (k:= ?_)
  exact⟨_,rfl,rfl,trivial⟩)
 ·rw[if_neg hT]
  refine gg (k:= ?_)
  exact⟨_,rfl,rfl,trivial⟩)
 | true=>
  refine gg (k:= ?_)
  refine bD (k:= ?_)
  refine ae (od s c g pa vs va vb v0 v1) Tryz.call27 5 [0,1,2,3,4] [0,0,0,0,0] [] ?_
  conv=>whnf
  refine And.intro ⟨.inr rfl,.inr rfl,.inr rfl,.inr rfl,.inr rfl,trivial⟩ ?_
  have eA:=g.l
  have cq:(c:Int)*(s.k:Int)=((c*k:Nat):Int):=by rw[cu];simp
  have N5:(c:Int)*(s.k:Int)≤4194304:=by omega
  have N6:(e:Int)≤(c:Int)*(s.k:Int):=by omega
  by_cases hn:(c:Int)*s.k - 16+16 - (e:Int)<12+key.length+val.length
  ·rw[if_pos (.inr hn)]
   refine gg (k:= ?_)
   (
 have fN:=Gf s c g (by omega) pa pb hi (ct.kept l) (fun r hr=>b9.1 r ((dR (l.map an)).subset hr)) (by have:=(dR (l.map an)).length_le;rw[List.length_map] at this;omega) l (e:Int) true vs va vb v0 v1 4 4 (l.length+4) (cB l l.length).length rfl
 have gc:=g.copy c (bm (l.map an))
 have pL:=(dR (l.map an)).length_le
 rw[List.length_map] at pL
 generalize s.copy c (bm (l.map an))=T at fN gc⊢
 refine ae (fN) Tryz.call80 (hrows:=⟨⟨⟨(by show 3<8;decide),(by show 1<8;decide),(by show 2<8;decide),trivial⟩,rfl⟩,⟨⟨(by show 3<8;decide),trivial,trivial,trivial⟩,rfl⟩,⟨⟨(by show 3<8;decide),trivial,trivial,trivial⟩,rfl⟩,⟨⟨(by show 4<8;decide),trivial,trivial,trivial,trivial,trivial,trivial⟩,rfl⟩,⟨trivial,rfl⟩,⟨fun _=>⟨(by show 6<8;decide),(by show 6<8;decide),trivial,trivial⟩,rfl⟩,⟨trivial,rfl⟩,⟨fun _=>⟨(by show 6<8;decide),(by show 6<8;decide),trivial,trivial⟩,rfl⟩,trivial⟩) (hr2:=⟨⟨rfl,rfl,rfl,trivial⟩,⟨rfl,trivial,trivial,trivial⟩,⟨rfl,trivial,trivial,trivial⟩,⟨rfl,trivial,trivial,trivial,trivial,trivial,trivial⟩,trivial,fun _=>⟨rfl,rfl,trivial,trivial⟩,trivial,fun _=>⟨rfl,rfl,trivial,trivial⟩,trivial⟩) 8 [0,1,2,3,4,42,41,40] [0,0,0,0,0,0,0,0] [] ?_
 by_cases hT:T.1=0
 ·rw[if_pos hT]
  refine gg (k:= ?_)
  rw[decide_eq_true hT]
  refine gg (k:= ?_)
  rcases Bool.eq_false_or_eq_true T.2.dd with cD | cD
  ·rw[if_pos cD]
   refine ae (mR T.2 c cD vs va vb v0 v1) Tryz.call77 5 [0,1,2,3,4] [0,0,0,0,0] [] ?_
   refine gg (k:= ?_)
   exact⟨_,rfl,rfl,trivial⟩
  ·rw[if_neg (by rw[cD];simp)]
   rcases gC T.2 c with c7 | c7
   ·obtain⟨l2,e2,b2,dJ⟩:∃l e b,T.2.scan 0 c=(l,e,b):=⟨_,_,_,rfl⟩
    rw[put_eq c7 (Nat.zero_mul c) dJ]
    have fh:=eB gc pa dJ
    refine ae (l8 T.2 c gc pa pb cD c7 l2 e2 b2 dJ vs va vb v0 v1) Tryz.call77 (he:=⟨fun _=>⟨rfl,rfl,trivial,trivial⟩,trivial,fun _=>⟨rfl,rfl,trivial,trivial⟩,trivial⟩) 5 [0,1,2,3,4,0,0,0,0,0,0,0,0,0,0,0,0,0,0,0,0,0,0,0,0,0,0,0,0,0,43,44,45] [0,0,0,0,0,0,0,0,0,0,0,0,0,0,0,0,0,0,0,0,0,0,0,0,0,0,0,0,0,0,1,1,1] [30,31,32] ?_
    refine gg (k:= ?_)
    (
 have bX:=lh T.2 0 c gc (by omega) pa key val cE dp z z' va v0 v1
 have cg:=av.add gc 0 c key val
 generalize J.add T.2 0 c key val=A at bX cg⊢
 refine ae (bX) Tryz.call81 3 [1,3,4] [0,0,0] [] ?_
 by_cases hA:A.1=0
 ·rw[if_pos hA]
  refine gg (k:= ?_)
  rw[decide_eq_true hA]
  refine gg (k:= ?_)
  refine ae (iF (ct.of l2) fh z key l2.length (l2.length+4) 4 (cP l2 0).symm) Tryz.call82 (hrows:=⟨⟨fun _=>⟨Nat.lt_succ_self 1,Nat.lt_succ_self 1,trivial,trivial⟩,rfl⟩,⟨trivial,rfl⟩,trivial⟩) (hr2:=⟨fun _=>⟨rfl,rfl,trivial,trivial⟩,trivial,trivial⟩) 2 [43,44] [0,0] [] ?_
  have cf:aG (aJ (l2.map an) key):=(lr _ _ fh.2)
  generalize aJ (l2.map an) key=LK at cf⊢
  by_cases hL:0≤LK
  ·rw[if_pos hL]
   refine gg (k:= ?_)
   rw[decide_eq_true hL]
   refine gg (k:= ?_)
   refine ae (jC A.2 0 c cg (by omega) pa LK cf va v0 v1) Tryz.call83 3 [1,3,4] [0,0,0] [] ?_
   refine gg (k:= ?_)
   exact⟨_,rfl,rfl,trivial⟩
  ·rw[if_neg hL]
   refine gg (k:= ?_)
   exact⟨_,rfl,rfl,trivial⟩
 ·rw[if_neg hA]
  refine gg (k:= ?_)
  exact⟨_,rfl,rfl,trivial⟩)
   ·obtain⟨l2,e2,b2,dJ⟩:∃l e b,T.2.scan c c=(l,e,b):=⟨_,_,_,rfl⟩
    rw[put_eq c7 (Nat.one_mul c) dJ]
    have fh:=eB gc pb dJ
    refine ae (l9 T.2 c gc pa pb cD c7 l2 e2 b2 dJ vs va vb v0 v1) Tryz.call77 (he:=⟨fun _=>⟨rfl,rfl,trivial,trivial⟩,trivial,fun _=>⟨rfl,rfl,trivial,trivial⟩,trivial⟩) 5 [0,1,2,3,4,0,0,0,0,0,0,0,0,0,0,0,0,0,0,0,0,0,0,0,0,0,0,0,0,0,43,44,45] [0,0,0,0,0,0,0,0,0,0,0,0,0,0,0,0,0,0,0,0,0,0,0,0,0,0,0,0,0,0,1,1,1] [30,31,32] ?_
    refine gg (k:= ?_)
    (
 have bX:=lh T.2 c c gc (by omega) pb key val cE dp z z' vb v0 v1
 have cg:=av.add gc c c key val
 generalize J.add T.2 c c key val=A at bX cg⊢
 refine ae (bX) Tryz.call81 3 [2,3,4] [0,0,0] [] ?_
 by_cases hA:A.1=0
 ·rw[if_pos hA]
  refine gg (k:= ?_)
  rw[decide_eq_true hA]
  refine gg (k:= ?_)
  refine ae (iF (ct.of l2) fh z key l2.length (l2.length+4) 4 (cP l2 0).symm) Tryz.call82 (hrows:=⟨⟨fun _=>⟨Nat.lt_succ_self 1,Nat.lt_succ_self 1,trivial,trivial⟩,rfl⟩,⟨trivial,rfl⟩,trivial⟩) (hr2:=⟨fun _=>⟨rfl,rfl,trivial,trivial⟩,trivial,trivial⟩) 2 [43,44] [0,0] [] ?_
  have cf:aG (aJ (l2.map an) key):=(lr _ _ fh.2)
  generalize aJ (l2.map an) key=LK at cf⊢
  by_cases hL:0≤LK
  ·rw[if_pos hL]
   refine gg (k:= ?_)
   rw[decide_eq_true hL]
   refine gg (k:= ?_)
   refine ae (jC A.2 c c cg (by omega) pb LK cf vb v0 v1) Tryz.call83 3 [2,3,4] [0,0,0] [] ?_
   refine gg (k:= ?_)
   exact⟨_,rfl,rfl,trivial⟩
  ·rw[if_neg hL]
   refine gg (k:= ?_)
   exact⟨_,rfl,rfl,trivial⟩
 ·rw[if_neg hA]
  refine gg (k:= ?_)
  exact⟨_,rfl,rfl,trivial⟩)
 ·rw[if_neg hT]
  refine gg (k:= ?_)
  exact⟨_,rfl,rfl,trivial⟩)
  ·rw[if_neg (fun q=>by rcases q with q | q;cases q;exact hn q),put_eq hi (show 0*c=0 by omega) hS]
   refine gg (k:= ?_)
   rw[decide_eq_false hn]
   refine⟨fun h=>absurd h (by simp),fun _=> ?_⟩
   refine gg (k:= ?_)
   (
 have bX:=lh s 0 c g (by omega) pa key val cE dp z z' va v0 v1
 have cg:=av.add g 0 c key val
 generalize J.add s 0 c key val=A at bX cg⊢
 refine ae (bX) Tryz.call81 3 [1,3,4] [0,0,0] [] ?_
 by_cases hA:A.1=0
 ·rw[if_pos hA]
  refine gg (k:= ?_)
  rw[decide_eq_true hA]
  refine gg (k:= ?_)
  refine ae (iF (ct.of l) b9 z key l.length (l.length+4) 4 (cP l 0).symm) Tryz.call82 (hrows:=⟨⟨fun _=>⟨Nat.lt_succ_self 1,Nat.lt_succ_self 1,trivial,trivial⟩,rfl⟩,⟨trivial,rfl⟩,trivial⟩) (hr2:=⟨fun _=>⟨rfl,rfl,trivial,trivial⟩,trivial,trivial⟩) 2 [40,41] [0,0] [] ?_
  have cf:aG (aJ (l.map an) key):=(lr _ _ b9.2)
  generalize aJ (l.map an) key=LK at cf⊢
  by_cases hL:0≤LK
  ·rw[if_pos hL]
   refine gg (k:= ?_)
   rw[decide_eq_true hL]
   refine gg (k:= ?_)
   refine ae (jC A.2 0 c cg (by omega) pa LK cf va v0 v1) Tryz.call83 3 [1,3,4] [0,0,0] [] ?_
   refine gg (k:= ?_)
   exact⟨_,rfl,rfl,trivial⟩
  ·rw[if_neg hL]
   refine gg (k:= ?_)
   exact⟨_,rfl,rfl,trivial⟩
 ·rw[if_neg hA]
  refine gg (k:= ?_)
  exact⟨_,rfl,rfl,trivial⟩)
end Go.Proofs.YtpbpiehcchannaaGreatDoor
