/- Walks of nvram: Set. Walks of nvram: Set. Conditions: the premises of each law. -/
import Derived.Test.YtpbpiehcchannaaGreatDoorJHd
namespace Go.Proofs.YtpbpiehcchannaaGreatDoor
set_option linter.unusedVariables false
set_option linter.unusedSimpArgs false
set_option maxRecDepth 100000
set_option maxHeartbeats 1500000
open Go.RowKit
theorem aw.cB{B:Int}{n k:Nat}{s:U}(g:aw B n k s)(a c:Nat)(gen:Int)(la:List RK):aw (B+c+13+la.length*65804) n k (s.cB a c gen la).2:=by
 unfold U.cB
 have gf:=g.format a c gen
 split
 ·have ga:=gf.bV a c la
  split
  ·exact(ga.prog _ _).mono (by simp only[List.length_singleton];omega)
  ·exact ga.mono (by omega)
 ·exact gf.mono (by omega)
theorem aw.copy{B:Int}{n k:Nat}{s:U}(g:aw B n k s)(c:Nat)(la:List RK):aw (B+c+13+la.length*65804) n k (s.copy c la).2:=by
 unfold U.copy
 split
 ·exact g.mono (by omega)
 ·exact g.cB _ _ _ _
theorem nE(l:List RK)(key:List UInt8)(h:l.length≤140737488355328):aX (aT l key):=by
 have:=ot l key l.length
 unfold aT aX
 omega
theorem yu{W:Int}{n k:Nat}{s:U}{a c:Nat}(g:aw W n k s)(p:aA n k a c):(s.cZ a c).length=c*k:=by
 have:=p.fit
 unfold U.cZ
 rw[List.length_take,List.length_drop,g.l,g.k];omega
theorem pG(s:U)(c:Nat):(s.a8 c).1=0∨(s.a8 c).1=1:=by
 unfold U.a8
 split
 ·exact .inr rfl
 ·exact .inl rfl
theorem put_eq{s:U}{c i a:Nat}(hi:(s.a8 c).1=i)(ha:i*c=a){l:List Rc}{e:Nat}{b:Bool}(hS:s.scan a c=(l,e,b))(key val:List UInt8):s.put c key val=if(s.add a c key val).1=0 then(if 0≤aT (l.map aj) key then(s.add a c key val).2.kill a c (aT (l.map aj) key) else(0,(s.add a c key val).2)) else s.add a c key val:=by
 unfold U.put U.bw U.fg
 rw[hi,ha,hS]
theorem O7 {W : Int} {n k : Nat} (s : U) (c : Nat) (g : aw W n k s) (hW : W ≤ 1000000000000000) (pa : aA n k 0 c) (pb : aA n k c c) (hd : s.dd = false) (hi : (s.a8 c).1 = 0) (z z' : Nat) (key val : List UInt8) (bH : key.length ≤ 140737488355328) (dS : val.length ≤ 140737488355328) (vs va vb v0 v1 : Nat) : Spec Tryz.prog 22 [.ref 0 vs 3 0 0, .bs z key, .bs z' val] [⟨vs, .obj [.ref 3 v0 6 0 0, .ref 1 va 3 0 0, .ref 2 vb 3 0 0]⟩, ⟨va, .obj [.ref 3 v0 6 0 0, .val (.int .i64 ((0 : Nat) : Int)), .val (.int .i64 (c : Int))]⟩, ⟨vb, .obj [.ref 3 v0 6 0 0, .val (.int .i64 (c : Int)), .val (.int .i64 (c : Int))]⟩, ⟨v0, .obj [.own 4 v1 1 0 s.l.length, .val (.int .i64 (s.k : Int)), .val (.int .i64 s.ar), .val (.int .i64 s.pt), .val (.bool s.dd), .val (.int .i64 s.wr)]⟩, ⟨v1, .bytes s.l⟩]
   (ak (.val (.int .i64 (s.set c key val).1)) [⟨vs,.obj [.ref 3 v0 6 0 0,.ref 1 va 3 0 0,.ref 2 vb 3 0 0]⟩,⟨va,.obj [.ref 3 v0 6 0 0,.val (.int .i64 ((0:Nat):Int)),.val (.int .i64 (c:Int))]⟩,⟨vb,.obj [.ref 3 v0 6 0 0,.val (.int .i64 (c:Int)),.val (.int .i64 (c:Int))]⟩,⟨v0,.obj [.own 4 v1 1 0 (s.set c key val).2.l.length,.val (.int .i64 ((s.set c key val).2.k:Int)),.val (.int .i64 (s.set c key val).2.ar),.val (.int .i64 (s.set c key val).2.pt),.val (.bool (s.set c key val).2.dd),.val (.int .i64 (s.set c key val).2.wr)]⟩,⟨v1,.bytes (s.set c key val).2.l⟩] []):=by
 obtain⟨l,e,b,hS⟩:∃l e b,s.scan 0 c=(l,e,b):=⟨_,_,_,rfl⟩
 have k9:s.fg c=(l,e,b):=by unfold U.fg;rw[hi,show 0*c=0 by omega,hS]
 have k8:s.bw c=l.map aj:=by unfold U.bw;rw[k9]
 have cG:=fI g pa hS
 have k7:=jH g pa hS
 have nF:=yt g pa hS
 have fR:=nC s c g pa pb hd hi l e b hS vs va vb v0 v1
 have dH:=g.k
 have vM:c≤4194304:=pa.ac.2
 have gn:=g.kk
 have jU:=pa.fit
 have O8:=g.len
 have iH:e≤c*k:=by
  have h1:=(yh (s.cZ 0 c) _ 16 rfl).2 (by rw[yu g pa];have:=pa.big;omega)
  rw[show cu (s.cZ 0 c) 16=(l,e,b) from hS,yu g pa] at h1
  exact h1
 refine ax ai Tryz.func22 rfl Tryz.ntmps22 Tryz.results22 ?_
 have kW:s.set c key val=if key.length<1∨255<key.length∨65536<val.length then(1,s) else if(c:Int)*s.k - 16<aP (b8 (l.map aj))+(12+key.length+val.length) then(5,s) else if b=false∨(c:Int)*s.k - 16+16 - (e:Int)<12+key.length+val.length then(if(s.copy c (b8 (l.map aj))).1=0 then(if(s.copy c (b8 (l.map aj))).2.dd=true then(6,(s.copy c (b8 (l.map aj))).2) else(s.copy c (b8 (l.map aj))).2.put c key val) else s.copy c (b8 (l.map aj))) else s.put c key val:=by
  unfold U.set
  rw[hd,k9,k8]
  simp only[Bool.false_eq_true,if_false]
 rw[kW]
 clear kW
 by_cases vQ:key.length<1∨255<key.length∨65536<val.length
 ·rw[if_pos vQ]
  refine gg ?_
  exact⟨_,rfl,rfl,trivial⟩
 rw[if_neg vQ]
 refine gg ?_
 refine af (fR) Tryz.call77 (he:=⟨fun _=>⟨rfl,rfl,trivial,trivial⟩,trivial,fun _=>⟨rfl,rfl,trivial,trivial⟩,trivial⟩) 5 [0,1,2,3,4,0,0,0,0,0,0,0,0,0,0,0,0,0,0,0,0,0,0,0,0,0,0,0,0,0,40,41,42] [0,0,0,0,0,0,0,0,0,0,0,0,0,0,0,0,0,0,0,0,0,0,0,0,0,0,0,0,0,0,1,1,1] [30,31,32] ?_
 refine gg ?_
 refine aY (qN (key.length:Int) (val.length:Int) (by omega) (by omega)) Tryz.call78 [] ?_
 refine gg ?_
 refine af (yv (cJ.kept l) (by omega) (by have:=(iL (l.map aj)).length_le;rw[List.length_map] at this;omega) s 0 c l (e:Int) b (cN l l.length).length 4 4 (l.length+4) va v0 v1 rfl) Tryz.call79 (hrows:=⟨⟨fun _=>⟨(by show 1<6;decide),(by show 1<6;decide),trivial,trivial⟩,rfl⟩,⟨trivial,rfl⟩,⟨fun _=>⟨(by show 1<6;decide),(by show 1<6;decide),trivial,trivial⟩,rfl⟩,⟨⟨(by show 4<6;decide),trivial,trivial,trivial⟩,rfl⟩,⟨⟨(by show 5<6;decide),trivial,trivial,trivial,trivial,trivial,trivial⟩,rfl⟩,⟨trivial,rfl⟩,trivial⟩) (hr2:=⟨fun _=>⟨rfl,rfl,trivial,trivial⟩,trivial,fun _=>⟨rfl,rfl,trivial,trivial⟩,⟨rfl,trivial,trivial,trivial⟩,⟨rfl,trivial,trivial,trivial,trivial,trivial,trivial⟩,trivial,trivial⟩) 6 [42,41,40,1,3,4] [0,0,0,0,0,0] [] ?_
 refine gg ?_
 refine af (vO s c g pa vs va vb v0 v1) Tryz.call27 5 [0,1,2,3,4] [0,0,0,0,0] [] ?_
 by_cases oO:(c:Int)*s.k - 16<aP (b8 (l.map aj))+(12+key.length+val.length)
 ·rw[if_pos oO]
  refine gg ?_
  exact⟨_,rfl,rfl,trivial⟩
 rw[if_neg oO]
 refine gg ?_
 (refine aH ?_)
 refine bL (p:=5) ai hm [0,1,3,7,15,15,47,111,15,271,1007,2047,4095] [⟨0,true,false,[49,50,51,52,53,54,55,56,57,58,59,60]⟩,⟨1,true,false,[50,51,52,53,54,55,56,57,58,59,60]⟩,⟨2,false,false,[]⟩,⟨3,false,false,[]⟩,⟨4,false,false,[]⟩,⟨5,false,false,[]⟩,⟨8,true,false,[52,53,54,55,57,58,59,60]⟩,⟨9,true,false,[52,53,54,55,58,59,60]⟩,⟨6,true,false,[52,55,56,57,58,59,60]⟩,⟨7,false,false,[]⟩,⟨10,false,false,[]⟩,⟨11,false,false,[]⟩,⟨12,false,false,[]⟩] (by kernel_rfl) ?_
 cases b with
 | false=>
  rw[if_pos (.inl rfl)]
  refine gg ?_
  intro _
  refine gg ?_
  (
 have iW:=HH s c g (by omega) pa pb hi (cJ.kept l) (fun r hr=>cG.1 r ((iL (l.map aj)).subset hr)) (by have:=(iL (l.map aj)).length_le;rw[List.length_map] at this;omega) l (e:Int) false vs va vb v0 v1 4 4 (l.length+4) (cN l l.length).length rfl
 have gc:=g.copy c (b8 (l.map aj))
 have qX:=(iL (l.map aj)).length_le
 rw[List.length_map] at qX
 generalize s.copy c (b8 (l.map aj))=T at iW gc⊢
 refine af (iW) Tryz.call80 (hrows:=⟨⟨⟨(by show 3<8;decide),(by show 1<8;decide),(by show 2<8;decide),trivial⟩,rfl⟩,⟨⟨(by show 3<8;decide),trivial,trivial,trivial⟩,rfl⟩,⟨⟨(by show 3<8;decide),trivial,trivial,trivial⟩,rfl⟩,⟨⟨(by show 4<8;decide),trivial,trivial,trivial,trivial,trivial,trivial⟩,rfl⟩,⟨trivial,rfl⟩,⟨fun _=>⟨(by show 6<8;decide),(by show 6<8;decide),trivial,trivial⟩,rfl⟩,⟨trivial,rfl⟩,⟨fun _=>⟨(by show 6<8;decide),(by show 6<8;decide),trivial,trivial⟩,rfl⟩,trivial⟩) (hr2:=⟨⟨rfl,rfl,rfl,trivial⟩,⟨rfl,trivial,trivial,trivial⟩,⟨rfl,trivial,trivial,trivial⟩,⟨rfl,trivial,trivial,trivial,trivial,trivial,trivial⟩,trivial,fun _=>⟨rfl,rfl,trivial,trivial⟩,trivial,fun _=>⟨rfl,rfl,trivial,trivial⟩,trivial⟩) 8 [0,1,2,3,4,42,41,40] [0,0,0,0,0,0,0,0] [] ?_
 by_cases hT:T.1=0
 ·rw[if_pos hT]
  refine gg ?_
  rw[decide_eq_true hT]
  refine gg ?_
  rcases Bool.eq_false_or_eq_true T.2.dd with ef | ef
  ·rw[if_pos ef]
   refine af (vR T.2 c ef vs va vb v0 v1) Tryz.call77 5 [0,1,2,3,4] [0,0,0,0,0] [] ?_
   refine gg ?_
   exact⟨_,rfl,rfl,trivial⟩
  ·rw[if_neg (by rw[ef];simp)]
   rcases pG T.2 c with dU | dU
   ·obtain⟨l2,e2,b2,eh⟩:∃l e b,T.2.scan 0 c=(l,e,b):=⟨_,_,_,rfl⟩
    rw[put_eq dU (Nat.zero_mul c) eh]
    have fS:=fI gc pa eh
    refine af (nC T.2 c gc pa pb ef dU l2 e2 b2 eh vs va vb v0 v1) Tryz.call77 (he:=⟨fun _=>⟨rfl,rfl,trivial,trivial⟩,trivial,fun _=>⟨rfl,rfl,trivial,trivial⟩,trivial⟩) 5 [0,1,2,3,4,0,0,0,0,0,0,0,0,0,0,0,0,0,0,0,0,0,0,0,0,0,0,0,0,0,43,44,45] [0,0,0,0,0,0,0,0,0,0,0,0,0,0,0,0,0,0,0,0,0,0,0,0,0,0,0,0,0,0,1,1,1] [30,31,32] ?_
    refine gg ?_
    (
 have dX:=mC T.2 0 c gc (by omega) pa key val bH dS z z' va v0 v1
 have eH:=aw.add gc 0 c key val
 generalize U.add T.2 0 c key val=A at dX eH⊢
 refine af (dX) Tryz.call81 3 [1,3,4] [0,0,0] [] ?_
 by_cases hA:A.1=0
 ·rw[if_pos hA]
  refine gg ?_
  rw[decide_eq_true hA]
  refine gg ?_
  refine af (jI (cJ.of l2) fS z key l2.length (l2.length+4) 4 (di l2 0).symm) Tryz.call82 (hrows:=⟨⟨fun _=>⟨Nat.lt_succ_self 1,Nat.lt_succ_self 1,trivial,trivial⟩,rfl⟩,⟨trivial,rfl⟩,trivial⟩) (hr2:=⟨fun _=>⟨rfl,rfl,trivial,trivial⟩,trivial,trivial⟩) 2 [43,44] [0,0] [] ?_
  have eI:aX (aT (l2.map aj) key):=(nE _ _ fS.2)
  generalize aT (l2.map aj) key=LK at eI⊢
  by_cases hL:0≤LK
  ·rw[if_pos hL]
   refine gg ?_
   rw[decide_eq_true hL]
   refine gg ?_
   refine af (kD A.2 0 c eH (by omega) pa LK eI va v0 v1) Tryz.call83 3 [1,3,4] [0,0,0] [] ?_
   refine gg ?_
   exact⟨_,rfl,rfl,trivial⟩
  ·rw[if_neg hL]
   refine gg ?_
   exact⟨_,rfl,rfl,trivial⟩
 ·rw[if_neg hA]
  refine gg ?_
  exact⟨_,rfl,rfl,trivial⟩)
   ·obtain⟨l2,e2,b2,eh⟩:∃l e b,T.2.scan c c=(l,e,b):=⟨_,_,_,rfl⟩
    rw[put_eq dU (Nat.one_mul c) eh]
    have fS:=fI gc pb eh
    refine af (nD T.2 c gc pa pb ef dU l2 e2 b2 eh vs va vb v0 v1) Tryz.call77 (he:=⟨fun _=>⟨rfl,rfl,trivial,trivial⟩,trivial,fun _=>⟨rfl,rfl,trivial,trivial⟩,trivial⟩) 5 [0,1,2,3,4,0,0,0,0,0,0,0,0,0,0,0,0,0,0,0,0,0,0,0,0,0,0,0,0,0,43,44,45] [0,0,0,0,0,0,0,0,0,0,0,0,0,0,0,0,0,0,0,0,0,0,0,0,0,0,0,0,0,0,1,1,1] [30,31,32] ?_
    refine gg ?_
    (
 have dX:=mC T.2 c c gc (by omega) pb key val bH dS z z' vb v0 v1
 have eH:=aw.add gc c c key val
 generalize U.add T.2 c c key val=A at dX eH⊢
 refine af (dX) Tryz.call81 3 [2,3,4] [0,0,0] [] ?_
 by_cases hA:A.1=0
 ·rw[if_pos hA]
  refine gg ?_
  rw[decide_eq_true hA]
  refine gg ?_
  refine af (jI (cJ.of l2) fS z key l2.length (l2.length+4) 4 (di l2 0).symm) Tryz.call82 (hrows:=⟨⟨fun _=>⟨Nat.lt_succ_self 1,Nat.lt_succ_self 1,trivial,trivial⟩,rfl⟩,⟨trivial,rfl⟩,trivial⟩) (hr2:=⟨fun _=>⟨rfl,rfl,trivial,trivial⟩,trivial,trivial⟩) 2 [43,44] [0,0] [] ?_
  have eI:aX (aT (l2.map aj) key):=(nE _ _ fS.2)
  generalize aT (l2.map aj) key=LK at eI⊢
  by_cases hL:0≤LK
  ·rw[if_pos hL]
   refine gg ?_
   rw[decide_eq_true hL]
   refine gg ?_
   refine af (kD A.2 c c eH (by omega) pb LK eI vb v0 v1) Tryz.call83 3 [2,3,4] [0,0,0] [] ?_
   refine gg ?_
   exact⟨_,rfl,rfl,trivial⟩
  ·rw[if_neg hL]
   refine gg ?_
   exact⟨_,rfl,rfl,trivial⟩
 ·rw[if_neg hA]
  refine gg ?_
  exact⟨_,rfl,rfl,trivial⟩)
 ·rw[if_neg hT]
  refine gg ?_
  exact⟨_,rfl,rfl,trivial⟩)
 | true=>
  refine gg ?_
  refine ji (k:= ?_)
  refine af (vO s c g pa vs va vb v0 v1) Tryz.call27 5 [0,1,2,3,4] [0,0,0,0,0] [] ?_
  conv=>whnf
  refine And.intro ⟨.inr rfl,.inr rfl,.inr rfl,.inr rfl,.inr rfl,trivial⟩ ?_
  have jg:=g.l
  have cA:(c:Int)*(s.k:Int)=((c*k:Nat):Int):=by rw[dH];simp
  have O9:(c:Int)*(s.k:Int)≤4194304:=by omega
  have Pa:(e:Int)≤(c:Int)*(s.k:Int):=by omega
  by_cases hn:(c:Int)*s.k - 16+16 - (e:Int)<12+key.length+val.length
  ·rw[if_pos (.inr hn)]
   refine gg ?_
   (
 have iW:=HH s c g (by omega) pa pb hi (cJ.kept l) (fun r hr=>cG.1 r ((iL (l.map aj)).subset hr)) (by have:=(iL (l.map aj)).length_le;rw[List.length_map] at this;omega) l (e:Int) true vs va vb v0 v1 4 4 (l.length+4) (cN l l.length).length rfl
 have gc:=g.copy c (b8 (l.map aj))
 have qX:=(iL (l.map aj)).length_le
 rw[List.length_map] at qX
 generalize s.copy c (b8 (l.map aj))=T at iW gc⊢
 refine af (iW) Tryz.call80 (hrows:=⟨⟨⟨(by show 3<8;decide),(by show 1<8;decide),(by show 2<8;decide),trivial⟩,rfl⟩,⟨⟨(by show 3<8;decide),trivial,trivial,trivial⟩,rfl⟩,⟨⟨(by show 3<8;decide),trivial,trivial,trivial⟩,rfl⟩,⟨⟨(by show 4<8;decide),trivial,trivial,trivial,trivial,trivial,trivial⟩,rfl⟩,⟨trivial,rfl⟩,⟨fun _=>⟨(by show 6<8;decide),(by show 6<8;decide),trivial,trivial⟩,rfl⟩,⟨trivial,rfl⟩,⟨fun _=>⟨(by show 6<8;decide),(by show 6<8;decide),trivial,trivial⟩,rfl⟩,trivial⟩) (hr2:=⟨⟨rfl,rfl,rfl,trivial⟩,⟨rfl,trivial,trivial,trivial⟩,⟨rfl,trivial,trivial,trivial⟩,⟨rfl,trivial,trivial,trivial,trivial,trivial,trivial⟩,trivial,fun _=>⟨rfl,rfl,trivial,trivial⟩,trivial,fun _=>⟨rfl,rfl,trivial,trivial⟩,trivial⟩) 8 [0,1,2,3,4,42,41,40] [0,0,0,0,0,0,0,0] [] ?_
 by_cases hT:T.1=0
 ·rw[if_pos hT]
  refine gg ?_
  rw[decide_eq_true hT]
  refine gg ?_
  rcases Bool.eq_false_or_eq_true T.2.dd with ef | ef
  ·rw[if_pos ef]
   refine af (vR T.2 c ef vs va vb v0 v1) Tryz.call77 5 [0,1,2,3,4] [0,0,0,0,0] [] ?_
   refine gg ?_
   exact⟨_,rfl,rfl,trivial⟩
  ·rw[if_neg (by rw[ef];simp)]
   rcases pG T.2 c with dU | dU
   ·obtain⟨l2,e2,b2,eh⟩:∃l e b,T.2.scan 0 c=(l,e,b):=⟨_,_,_,rfl⟩
    rw[put_eq dU (Nat.zero_mul c) eh]
    have fS:=fI gc pa eh
    refine af (nC T.2 c gc pa pb ef dU l2 e2 b2 eh vs va vb v0 v1) Tryz.call77 (he:=⟨fun _=>⟨rfl,rfl,trivial,trivial⟩,trivial,fun _=>⟨rfl,rfl,trivial,trivial⟩,trivial⟩) 5 [0,1,2,3,4,0,0,0,0,0,0,0,0,0,0,0,0,0,0,0,0,0,0,0,0,0,0,0,0,0,43,44,45] [0,0,0,0,0,0,0,0,0,0,0,0,0,0,0,0,0,0,0,0,0,0,0,0,0,0,0,0,0,0,1,1,1] [30,31,32] ?_
    refine gg ?_
    (
 have dX:=mC T.2 0 c gc (by omega) pa key val bH dS z z' va v0 v1
 have eH:=aw.add gc 0 c key val
 generalize U.add T.2 0 c key val=A at dX eH⊢
 refine af (dX) Tryz.call81 3 [1,3,4] [0,0,0] [] ?_
 by_cases hA:A.1=0
 ·rw[if_pos hA]
  refine gg ?_
  rw[decide_eq_true hA]
  refine gg ?_
  refine af (jI (cJ.of l2) fS z key l2.length (l2.length+4) 4 (di l2 0).symm) Tryz.call82 (hrows:=⟨⟨fun _=>⟨Nat.lt_succ_self 1,Nat.lt_succ_self 1,trivial,trivial⟩,rfl⟩,⟨trivial,rfl⟩,trivial⟩) (hr2:=⟨fun _=>⟨rfl,rfl,trivial,trivial⟩,trivial,trivial⟩) 2 [43,44] [0,0] [] ?_
  have eI:aX (aT (l2.map aj) key):=(nE _ _ fS.2)
  generalize aT (l2.map aj) key=LK at eI⊢
  by_cases hL:0≤LK
  ·rw[if_pos hL]
   refine gg ?_
   rw[decide_eq_true hL]
   refine gg ?_
   refine af (kD A.2 0 c eH (by omega) pa LK eI va v0 v1) Tryz.call83 3 [1,3,4] [0,0,0] [] ?_
   refine gg ?_
   exact⟨_,rfl,rfl,trivial⟩
  ·rw[if_neg hL]
   refine gg ?_
   exact⟨_,rfl,rfl,trivial⟩
 ·rw[if_neg hA]
  refine gg ?_
  exact⟨_,rfl,rfl,trivial⟩)
   ·obtain⟨l2,e2,b2,eh⟩:∃l e b,T.2.scan c c=(l,e,b):=⟨_,_,_,rfl⟩
    rw[put_eq dU (Nat.one_mul c) eh]
    have fS:=fI gc pb eh
    refine af (nD T.2 c gc pa pb ef dU l2 e2 b2 eh vs va vb v0 v1) Tryz.call77 (he:=⟨fun _=>⟨rfl,rfl,trivial,trivial⟩,trivial,fun _=>⟨rfl,rfl,trivial,trivial⟩,trivial⟩) 5 [0,1,2,3,4,0,0,0,0,0,0,0,0,0,0,0,0,0,0,0,0,0,0,0,0,0,0,0,0,0,43,44,45] [0,0,0,0,0,0,0,0,0,0,0,0,0,0,0,0,0,0,0,0,0,0,0,0,0,0,0,0,0,0,1,1,1] [30,31,32] ?_
    refine gg ?_
    (
 have dX:=mC T.2 c c gc (by omega) pb key val bH dS z z' vb v0 v1
 have eH:=aw.add gc c c key val
 generalize U.add T.2 c c key val=A at dX eH⊢
 refine af (dX) Tryz.call81 3 [2,3,4] [0,0,0] [] ?_
 by_cases hA:A.1=0
 ·rw[if_pos hA]
  refine gg ?_
  rw[decide_eq_true hA]
  refine gg ?_
  refine af (jI (cJ.of l2) fS z key l2.length (l2.length+4) 4 (di l2 0).symm) Tryz.call82 (hrows:=⟨⟨fun _=>⟨Nat.lt_succ_self 1,Nat.lt_succ_self 1,trivial,trivial⟩,rfl⟩,⟨trivial,rfl⟩,trivial⟩) (hr2:=⟨fun _=>⟨rfl,rfl,trivial,trivial⟩,trivial,trivial⟩) 2 [43,44] [0,0] [] ?_
  have eI:aX (aT (l2.map aj) key):=(nE _ _ fS.2)
  generalize aT (l2.map aj) key=LK at eI⊢
  by_cases hL:0≤LK
  ·rw[if_pos hL]
   refine gg ?_
   rw[decide_eq_true hL]
   refine gg ?_
   refine af (kD A.2 c c eH (by omega) pb LK eI vb v0 v1) Tryz.call83 3 [2,3,4] [0,0,0] [] ?_
   refine gg ?_
   exact⟨_,rfl,rfl,trivial⟩
  ·rw[if_neg hL]
   refine gg ?_
   exact⟨_,rfl,rfl,trivial⟩
 ·rw[if_neg hA]
  refine gg ?_
  exact⟨_,rfl,rfl,trivial⟩)
 ·rw[if_neg hT]
  refine gg ?_
  exact⟨_,rfl,rfl,trivial⟩)
  ·rw[if_neg (fun q=>by rcases q with q | q;cases q;exact hn q),put_eq hi (show 0*c=0 by omega) hS]
   refine gg ?_
   rw[decide_eq_false hn]
   refine⟨fun h=>absurd h (by simp),fun _=> ?_⟩
   refine gg ?_
   (
 have dX:=mC s 0 c g (by omega) pa key val bH dS z z' va v0 v1
 have eH:=aw.add g 0 c key val
 generalize U.add s 0 c key val=A at dX eH⊢
 refine af (dX) Tryz.call81 3 [1,3,4] [0,0,0] [] ?_
 by_cases hA:A.1=0
 ·rw[if_pos hA]
  refine gg ?_
  rw[decide_eq_true hA]
  refine gg ?_
  refine af (jI (cJ.of l) cG z key l.length (l.length+4) 4 (di l 0).symm) Tryz.call82 (hrows:=⟨⟨fun _=>⟨Nat.lt_succ_self 1,Nat.lt_succ_self 1,trivial,trivial⟩,rfl⟩,⟨trivial,rfl⟩,trivial⟩) (hr2:=⟨fun _=>⟨rfl,rfl,trivial,trivial⟩,trivial,trivial⟩) 2 [40,41] [0,0] [] ?_
  have eI:aX (aT (l.map aj) key):=(nE _ _ cG.2)
  generalize aT (l.map aj) key=LK at eI⊢
  by_cases hL:0≤LK
  ·rw[if_pos hL]
   refine gg ?_
   rw[decide_eq_true hL]
   refine gg ?_
   refine af (kD A.2 0 c eH (by omega) pa LK eI va v0 v1) Tryz.call83 3 [1,3,4] [0,0,0] [] ?_
   refine gg ?_
   exact⟨_,rfl,rfl,trivial⟩
  ·rw[if_neg hL]
   refine gg ?_
   exact⟨_,rfl,rfl,trivial⟩
 ·rw[if_neg hA]
  refine gg ?_
  exact⟨_,rfl,rfl,trivial⟩)
theorem Pb {W : Int} {n k : Nat} (s : U) (c : Nat) (g : aw W n k s) (hW : W ≤ 1000000000000000) (pa : aA n k 0 c) (pb : aA n k c c) (hd : s.dd = false) (hi : (s.a8 c).1 = 1) (z z' : Nat) (key val : List UInt8) (bH : key.length ≤ 140737488355328) (dS : val.length ≤ 140737488355328) (vs va vb v0 v1 : Nat) : Spec Tryz.prog 22 [.ref 0 vs 3 0 0, .bs z key, .bs z' val] [⟨vs, .obj [.ref 3 v0 6 0 0, .ref 1 va 3 0 0, .ref 2 vb 3 0 0]⟩, ⟨va, .obj [.ref 3 v0 6 0 0, .val (.int .i64 ((0 : Nat) : Int)), .val (.int .i64 (c : Int))]⟩, ⟨vb, .obj [.ref 3 v0 6 0 0, .val (.int .i64 (c : Int)), .val (.int .i64 (c : Int))]⟩, ⟨v0, .obj [.own 4 v1 1 0 s.l.length, .val (.int .i64 (s.k : Int)), .val (.int .i64 s.ar), .val (.int .i64 s.pt), .val (.bool s.dd), .val (.int .i64 s.wr)]⟩, ⟨v1, .bytes s.l⟩]
   (ak (.val (.int .i64 (s.set c key val).1)) [⟨vs,.obj [.ref 3 v0 6 0 0,.ref 1 va 3 0 0,.ref 2 vb 3 0 0]⟩,⟨va,.obj [.ref 3 v0 6 0 0,.val (.int .i64 ((0:Nat):Int)),.val (.int .i64 (c:Int))]⟩,⟨vb,.obj [.ref 3 v0 6 0 0,.val (.int .i64 (c:Int)),.val (.int .i64 (c:Int))]⟩,⟨v0,.obj [.own 4 v1 1 0 (s.set c key val).2.l.length,.val (.int .i64 ((s.set c key val).2.k:Int)),.val (.int .i64 (s.set c key val).2.ar),.val (.int .i64 (s.set c key val).2.pt),.val (.bool (s.set c key val).2.dd),.val (.int .i64 (s.set c key val).2.wr)]⟩,⟨v1,.bytes (s.set c key val).2.l⟩] []):=by
 obtain⟨l,e,b,hS⟩:∃l e b,s.scan c c=(l,e,b):=⟨_,_,_,rfl⟩
 have k9:s.fg c=(l,e,b):=by unfold U.fg;rw[hi,show 1*c=c by omega,hS]
 have k8:s.bw c=l.map aj:=by unfold U.bw;rw[k9]
 have cG:=fI g pb hS
 have k7:=jH g pb hS
 have nF:=yt g pb hS
 have fR:=nD s c g pa pb hd hi l e b hS vs va vb v0 v1
 have dH:=g.k
 have vM:c≤4194304:=pa.ac.2
 have gn:=g.kk
 have jU:=pa.fit
 have O8:=g.len
 have iH:e≤c*k:=by
  have h1:=(yh (s.cZ c c) _ 16 rfl).2 (by rw[yu g pb];have:=pa.big;omega)
  rw[show cu (s.cZ c c) 16=(l,e,b) from hS,yu g pb] at h1
  exact h1
 refine ax ai Tryz.func22 rfl Tryz.ntmps22 Tryz.results22 ?_
 have kW:s.set c key val=if key.length<1∨255<key.length∨65536<val.length then(1,s) else if(c:Int)*s.k - 16<aP (b8 (l.map aj))+(12+key.length+val.length) then(5,s) else if b=false∨(c:Int)*s.k - 16+16 - (e:Int)<12+key.length+val.length then(if(s.copy c (b8 (l.map aj))).1=0 then(if(s.copy c (b8 (l.map aj))).2.dd=true then(6,(s.copy c (b8 (l.map aj))).2) else(s.copy c (b8 (l.map aj))).2.put c key val) else s.copy c (b8 (l.map aj))) else s.put c key val:=by
  unfold U.set
  rw[hd,k9,k8]
  simp only[Bool.false_eq_true,if_false]
 rw[kW]
 clear kW
 by_cases vQ:key.length<1∨255<key.length∨65536<val.length
 ·rw[if_pos vQ]
  refine gg ?_
  exact⟨_,rfl,rfl,trivial⟩
 rw[if_neg vQ]
 refine gg ?_
 refine af (fR) Tryz.call77 (he:=⟨fun _=>⟨rfl,rfl,trivial,trivial⟩,trivial,fun _=>⟨rfl,rfl,trivial,trivial⟩,trivial⟩) 5 [0,1,2,3,4,0,0,0,0,0,0,0,0,0,0,0,0,0,0,0,0,0,0,0,0,0,0,0,0,0,40,41,42] [0,0,0,0,0,0,0,0,0,0,0,0,0,0,0,0,0,0,0,0,0,0,0,0,0,0,0,0,0,0,1,1,1] [30,31,32] ?_
 refine gg ?_
 refine aY (qN (key.length:Int) (val.length:Int) (by omega) (by omega)) Tryz.call78 [] ?_
 refine gg ?_
 refine af (yv (cJ.kept l) (by omega) (by have:=(iL (l.map aj)).length_le;rw[List.length_map] at this;omega) s c c l (e:Int) b (cN l l.length).length 4 4 (l.length+4) vb v0 v1 rfl) Tryz.call79 (hrows:=⟨⟨fun _=>⟨(by show 1<6;decide),(by show 1<6;decide),trivial,trivial⟩,rfl⟩,⟨trivial,rfl⟩,⟨fun _=>⟨(by show 1<6;decide),(by show 1<6;decide),trivial,trivial⟩,rfl⟩,⟨⟨(by show 4<6;decide),trivial,trivial,trivial⟩,rfl⟩,⟨⟨(by show 5<6;decide),trivial,trivial,trivial,trivial,trivial,trivial⟩,rfl⟩,⟨trivial,rfl⟩,trivial⟩) (hr2:=⟨fun _=>⟨rfl,rfl,trivial,trivial⟩,trivial,fun _=>⟨rfl,rfl,trivial,trivial⟩,⟨rfl,trivial,trivial,trivial⟩,⟨rfl,trivial,trivial,trivial,trivial,trivial,trivial⟩,trivial,trivial⟩) 6 [42,41,40,2,3,4] [0,0,0,0,0,0] [] ?_
 refine gg ?_
 refine af (vO s c g pa vs va vb v0 v1) Tryz.call27 5 [0,1,2,3,4] [0,0,0,0,0] [] ?_
 by_cases oO:(c:Int)*s.k - 16<aP (b8 (l.map aj))+(12+key.length+val.length)
 ·rw[if_pos oO]
  refine gg ?_
  exact⟨_,rfl,rfl,trivial⟩
 rw[if_neg oO]
 refine gg ?_
 (refine aH ?_)
 refine bL (p:=5) ai hm [0,1,3,7,15,15,47,111,15,271,1007,2047,4095] [⟨0,true,false,[49,50,51,52,53,54,55,56,57,58,59,60]⟩,⟨1,true,false,[50,51,52,53,54,55,56,57,58,59,60]⟩,⟨2,false,false,[]⟩,⟨3,false,false,[]⟩,⟨4,false,false,[]⟩,⟨5,false,false,[]⟩,⟨8,true,false,[52,53,54,55,57,58,59,60]⟩,⟨9,true,false,[52,53,54,55,58,59,60]⟩,⟨6,true,false,[52,55,56,57,58,59,60]⟩,⟨7,false,false,[]⟩,⟨10,false,false,[]⟩,⟨11,false,false,[]⟩,⟨12,false,false,[]⟩] (by kernel_rfl) ?_
 cases b with
 | false=>
  rw[if_pos (.inl rfl)]
  refine gg ?_
  intro _
  refine gg ?_
  (
 have iW:=HI s c g (by omega) pa pb hi (cJ.kept l) (fun r hr=>cG.1 r ((iL (l.map aj)).subset hr)) (by have:=(iL (l.map aj)).length_le;rw[List.length_map] at this;omega) l (e:Int) false vs va vb v0 v1 4 4 (l.length+4) (cN l l.length).length rfl
 have gc:=g.copy c (b8 (l.map aj))
 have qX:=(iL (l.map aj)).length_le
 rw[List.length_map] at qX
 generalize s.copy c (b8 (l.map aj))=T at iW gc⊢
 refine af (iW) Tryz.call80 (hrows:=⟨⟨⟨(by show 3<8;decide),(by show 1<8;decide),(by show 2<8;decide),trivial⟩,rfl⟩,⟨⟨(by show 3<8;decide),trivial,trivial,trivial⟩,rfl⟩,⟨⟨(by show 3<8;decide),trivial,trivial,trivial⟩,rfl⟩,⟨⟨(by show 4<8;decide),trivial,trivial,trivial,trivial,trivial,trivial⟩,rfl⟩,⟨trivial,rfl⟩,⟨fun _=>⟨(by show 6<8;decide),(by show 6<8;decide),trivial,trivial⟩,rfl⟩,⟨trivial,rfl⟩,⟨fun _=>⟨(by show 6<8;decide),(by show 6<8;decide),trivial,trivial⟩,rfl⟩,trivial⟩) (hr2:=⟨⟨rfl,rfl,rfl,trivial⟩,⟨rfl,trivial,trivial,trivial⟩,⟨rfl,trivial,trivial,trivial⟩,⟨rfl,trivial,trivial,trivial,trivial,trivial,trivial⟩,trivial,fun _=>⟨rfl,rfl,trivial,trivial⟩,trivial,fun _=>⟨rfl,rfl,trivial,trivial⟩,trivial⟩) 8 [0,1,2,3,4,42,41,40] [0,0,0,0,0,0,0,0] [] ?_
 by_cases hT:T.1=0
 ·rw[if_pos hT]
  refine gg ?_
  rw[decide_eq_true hT]
  refine gg ?_
  rcases Bool.eq_false_or_eq_true T.2.dd with ef | ef
  ·rw[if_pos ef]
   refine af (vR T.2 c ef vs va vb v0 v1) Tryz.call77 5 [0,1,2,3,4] [0,0,0,0,0] [] ?_
   refine gg ?_
   exact⟨_,rfl,rfl,trivial⟩
  ·rw[if_neg (by rw[ef];simp)]
   rcases pG T.2 c with dU | dU
   ·obtain⟨l2,e2,b2,eh⟩:∃l e b,T.2.scan 0 c=(l,e,b):=⟨_,_,_,rfl⟩
    rw[put_eq dU (Nat.zero_mul c) eh]
    have fS:=fI gc pa eh
    refine af (nC T.2 c gc pa pb ef dU l2 e2 b2 eh vs va vb v0 v1) Tryz.call77 (he:=⟨fun _=>⟨rfl,rfl,trivial,trivial⟩,trivial,fun _=>⟨rfl,rfl,trivial,trivial⟩,trivial⟩) 5 [0,1,2,3,4,0,0,0,0,0,0,0,0,0,0,0,0,0,0,0,0,0,0,0,0,0,0,0,0,0,43,44,45] [0,0,0,0,0,0,0,0,0,0,0,0,0,0,0,0,0,0,0,0,0,0,0,0,0,0,0,0,0,0,1,1,1] [30,31,32] ?_
    refine gg ?_
    (
 have dX:=mC T.2 0 c gc (by omega) pa key val bH dS z z' va v0 v1
 have eH:=aw.add gc 0 c key val
 generalize U.add T.2 0 c key val=A at dX eH⊢
 refine af (dX) Tryz.call81 3 [1,3,4] [0,0,0] [] ?_
 by_cases hA:A.1=0
 ·rw[if_pos hA]
  refine gg ?_
  rw[decide_eq_true hA]
  refine gg ?_
  refine af (jI (cJ.of l2) fS z key l2.length (l2.length+4) 4 (di l2 0).symm) Tryz.call82 (hrows:=⟨⟨fun _=>⟨Nat.lt_succ_self 1,Nat.lt_succ_self 1,trivial,trivial⟩,rfl⟩,⟨trivial,rfl⟩,trivial⟩) (hr2:=⟨fun _=>⟨rfl,rfl,trivial,trivial⟩,trivial,trivial⟩) 2 [43,44] [0,0] [] ?_
  have eI:aX (aT (l2.map aj) key):=(nE _ _ fS.2)
  generalize aT (l2.map aj) key=LK at eI⊢
  by_cases hL:0≤LK
  ·rw[if_pos hL]
   refine gg ?_
   rw[decide_eq_true hL]
   refine gg ?_
   refine af (kD A.2 0 c eH (by omega) pa LK eI va v0 v1) Tryz.call83 3 [1,3,4] [0,0,0] [] ?_
   refine gg ?_
   exact⟨_,rfl,rfl,trivial⟩
  ·rw[if_neg hL]
   refine gg ?_
   exact⟨_,rfl,rfl,trivial⟩
 ·rw[if_neg hA]
  refine gg ?_
  exact⟨_,rfl,rfl,trivial⟩)
   ·obtain⟨l2,e2,b2,eh⟩:∃l e b,T.2.scan c c=(l,e,b):=⟨_,_,_,rfl⟩
    rw[put_eq dU (Nat.one_mul c) eh]
    have fS:=fI gc pb eh
    refine af (nD T.2 c gc pa pb ef dU l2 e2 b2 eh vs va vb v0 v1) Tryz.call77 (he:=⟨fun _=>⟨rfl,rfl,trivial,trivial⟩,trivial,fun _=>⟨rfl,rfl,trivial,trivial⟩,trivial⟩) 5 [0,1,2,3,4,0,0,0,0,0,0,0,0,0,0,0,0,0,0,0,0,0,0,0,0,0,0,0,0,0,43,44,45] [0,0,0,0,0,0,0,0,0,0,0,0,0,0,0,0,0,0,0,0,0,0,0,0,0,0,0,0,0,0,1,1,1] [30,31,32] ?_
    refine gg ?_
    (
 have dX:=mC T.2 c c gc (by omega) pb key val bH dS z z' vb v0 v1
 have eH:=aw.add gc c c key val
 generalize U.add T.2 c c key val=A at dX eH⊢
 refine af (dX) Tryz.call81 3 [2,3,4] [0,0,0] [] ?_
 by_cases hA:A.1=0
 ·rw[if_pos hA]
  refine gg ?_
  rw[decide_eq_true hA]
  refine gg ?_
  refine af (jI (cJ.of l2) fS z key l2.length (l2.length+4) 4 (di l2 0).symm) Tryz.call82 (hrows:=⟨⟨fun _=>⟨Nat.lt_succ_self 1,Nat.lt_succ_self 1,trivial,trivial⟩,rfl⟩,⟨trivial,rfl⟩,trivial⟩) (hr2:=⟨fun _=>⟨rfl,rfl,trivial,trivial⟩,trivial,trivial⟩) 2 [43,44] [0,0] [] ?_
  have eI:aX (aT (l2.map aj) key):=(nE _ _ fS.2)
  generalize aT (l2.map aj) key=LK at eI⊢
  by_cases hL:0≤LK
  ·rw[if_pos hL]
   refine gg ?_
   rw[decide_eq_true hL]
   refine gg ?_
   refine af (kD A.2 c c eH (by omega) pb LK eI vb v0 v1) Tryz.call83 3 [2,3,4] [0,0,0] [] ?_
   refine gg ?_
   exact⟨_,rfl,rfl,trivial⟩
  ·rw[if_neg hL]
   refine gg ?_
   exact⟨_,rfl,rfl,trivial⟩
 ·rw[if_neg hA]
  refine gg ?_
  exact⟨_,rfl,rfl,trivial⟩)
 ·rw[if_neg hT]
  refine gg ?_
  exact⟨_,rfl,rfl,trivial⟩)
 | true=>
  refine gg ?_
  refine ji (k:= ?_)
  refine af (vO s c g pa vs va vb v0 v1) Tryz.call27 5 [0,1,2,3,4] [0,0,0,0,0] [] ?_
  conv=>whnf
  refine And.intro ⟨.inr rfl,.inr rfl,.inr rfl,.inr rfl,.inr rfl,trivial⟩ ?_
  have jg:=g.l
  have cA:(c:Int)*(s.k:Int)=((c*k:Nat):Int):=by rw[dH];simp
  have O9:(c:Int)*(s.k:Int)≤4194304:=by omega
  have Pa:(e:Int)≤(c:Int)*(s.k:Int):=by omega
  by_cases hn:(c:Int)*s.k - 16+16 - (e:Int)<12+key.length+val.length
  ·rw[if_pos (.inr hn)]
   refine gg ?_
   (
 have iW:=HI s c g (by omega) pa pb hi (cJ.kept l) (fun r hr=>cG.1 r ((iL (l.map aj)).subset hr)) (by have:=(iL (l.map aj)).length_le;rw[List.length_map] at this;omega) l (e:Int) true vs va vb v0 v1 4 4 (l.length+4) (cN l l.length).length rfl
 have gc:=g.copy c (b8 (l.map aj))
 have qX:=(iL (l.map aj)).length_le
 rw[List.length_map] at qX
 generalize s.copy c (b8 (l.map aj))=T at iW gc⊢
 refine af (iW) Tryz.call80 (hrows:=⟨⟨⟨(by show 3<8;decide),(by show 1<8;decide),(by show 2<8;decide),trivial⟩,rfl⟩,⟨⟨(by show 3<8;decide),trivial,trivial,trivial⟩,rfl⟩,⟨⟨(by show 3<8;decide),trivial,trivial,trivial⟩,rfl⟩,⟨⟨(by show 4<8;decide),trivial,trivial,trivial,trivial,trivial,trivial⟩,rfl⟩,⟨trivial,rfl⟩,⟨fun _=>⟨(by show 6<8;decide),(by show 6<8;decide),trivial,trivial⟩,rfl⟩,⟨trivial,rfl⟩,⟨fun _=>⟨(by show 6<8;decide),(by show 6<8;decide),trivial,trivial⟩,rfl⟩,trivial⟩) (hr2:=⟨⟨rfl,rfl,rfl,trivial⟩,⟨rfl,trivial,trivial,trivial⟩,⟨rfl,trivial,trivial,trivial⟩,⟨rfl,trivial,trivial,trivial,trivial,trivial,trivial⟩,trivial,fun _=>⟨rfl,rfl,trivial,trivial⟩,trivial,fun _=>⟨rfl,rfl,trivial,trivial⟩,trivial⟩) 8 [0,1,2,3,4,42,41,40] [0,0,0,0,0,0,0,0] [] ?_
 by_cases hT:T.1=0
 ·rw[if_pos hT]
  refine gg ?_
  rw[decide_eq_true hT]
  refine gg ?_
  rcases Bool.eq_false_or_eq_true T.2.dd with ef | ef
  ·rw[if_pos ef]
   refine af (vR T.2 c ef vs va vb v0 v1) Tryz.call77 5 [0,1,2,3,4] [0,0,0,0,0] [] ?_
   refine gg ?_
   exact⟨_,rfl,rfl,trivial⟩
  ·rw[if_neg (by rw[ef];simp)]
   rcases pG T.2 c with dU | dU
   ·obtain⟨l2,e2,b2,eh⟩:∃l e b,T.2.scan 0 c=(l,e,b):=⟨_,_,_,rfl⟩
    rw[put_eq dU (Nat.zero_mul c) eh]
    have fS:=fI gc pa eh
    refine af (nC T.2 c gc pa pb ef dU l2 e2 b2 eh vs va vb v0 v1) Tryz.call77 (he:=⟨fun _=>⟨rfl,rfl,trivial,trivial⟩,trivial,fun _=>⟨rfl,rfl,trivial,trivial⟩,trivial⟩) 5 [0,1,2,3,4,0,0,0,0,0,0,0,0,0,0,0,0,0,0,0,0,0,0,0,0,0,0,0,0,0,43,44,45] [0,0,0,0,0,0,0,0,0,0,0,0,0,0,0,0,0,0,0,0,0,0,0,0,0,0,0,0,0,0,1,1,1] [30,31,32] ?_
    refine gg ?_
    (
 have dX:=mC T.2 0 c gc (by omega) pa key val bH dS z z' va v0 v1
 have eH:=aw.add gc 0 c key val
 generalize U.add T.2 0 c key val=A at dX eH⊢
 refine af (dX) Tryz.call81 3 [1,3,4] [0,0,0] [] ?_
 by_cases hA:A.1=0
 ·rw[if_pos hA]
  refine gg ?_
  rw[decide_eq_true hA]
  refine gg ?_
  refine af (jI (cJ.of l2) fS z key l2.length (l2.length+4) 4 (di l2 0).symm) Tryz.call82 (hrows:=⟨⟨fun _=>⟨Nat.lt_succ_self 1,Nat.lt_succ_self 1,trivial,trivial⟩,rfl⟩,⟨trivial,rfl⟩,trivial⟩) (hr2:=⟨fun _=>⟨rfl,rfl,trivial,trivial⟩,trivial,trivial⟩) 2 [43,44] [0,0] [] ?_
  have eI:aX (aT (l2.map aj) key):=(nE _ _ fS.2)
  generalize aT (l2.map aj) key=LK at eI⊢
  by_cases hL:0≤LK
  ·rw[if_pos hL]
   refine gg ?_
   rw[decide_eq_true hL]
   refine gg ?_
   refine af (kD A.2 0 c eH (by omega) pa LK eI va v0 v1) Tryz.call83 3 [1,3,4] [0,0,0] [] ?_
   refine gg ?_
   exact⟨_,rfl,rfl,trivial⟩
  ·rw[if_neg hL]
   refine gg ?_
   exact⟨_,rfl,rfl,trivial⟩
 ·rw[if_neg hA]
  refine gg ?_
  exact⟨_,rfl,rfl,trivial⟩)
   ·obtain⟨l2,e2,b2,eh⟩:∃l e b,T.2.scan c c=(l,e,b):=⟨_,_,_,rfl⟩
    rw[put_eq dU (Nat.one_mul c) eh]
    have fS:=fI gc pb eh
    refine af (nD T.2 c gc pa pb ef dU l2 e2 b2 eh vs va vb v0 v1) Tryz.call77 (he:=⟨fun _=>⟨rfl,rfl,trivial,trivial⟩,trivial,fun _=>⟨rfl,rfl,trivial,trivial⟩,trivial⟩) 5 [0,1,2,3,4,0,0,0,0,0,0,0,0,0,0,0,0,0,0,0,0,0,0,0,0,0,0,0,0,0,43,44,45] [0,0,0,0,0,0,0,0,0,0,0,0,0,0,0,0,0,0,0,0,0,0,0,0,0,0,0,0,0,0,1,1,1] [30,31,32] ?_
    refine gg ?_
    (
 have dX:=mC T.2 c c gc (by omega) pb key val bH dS z z' vb v0 v1
 have eH:=aw.add gc c c key val
 generalize U.add T.2 c c key val=A at dX eH⊢
 refine af (dX) Tryz.call81 3 [2,3,4] [0,0,0] [] ?_
 by_cases hA:A.1=0
 ·rw[if_pos hA]
  refine gg ?_
  rw[decide_eq_true hA]
  refine gg ?_
  refine af (jI (cJ.of l2) fS z key l2.length (l2.length+4) 4 (di l2 0).symm) Tryz.call82 (hrows:=⟨⟨fun _=>⟨Nat.lt_succ_self 1,Nat.lt_succ_self 1,trivial,trivial⟩,rfl⟩,⟨trivial,rfl⟩,trivial⟩) (hr2:=⟨fun _=>⟨rfl,rfl,trivial,trivial⟩,trivial,trivial⟩) 2 [43,44] [0,0] [] ?_
  have eI:aX (aT (l2.map aj) key):=(nE _ _ fS.2)
  generalize aT (l2.map aj) key=LK at eI⊢
  by_cases hL:0≤LK
  ·rw[if_pos hL]
   refine gg ?_
   rw[decide_eq_true hL]
   refine gg ?_
   refine af (kD A.2 c c eH (by omega) pb LK eI vb v0 v1) Tryz.call83 3 [2,3,4] [0,0,0] [] ?_
   refine gg ?_
   exact⟨_,rfl,rfl,trivial⟩
  ·rw[if_neg hL]
   refine gg ?_
   exact⟨_,rfl,rfl,trivial⟩
 ·rw[if_neg hA]
  refine gg ?_
  exact⟨_,rfl,rfl,trivial⟩)
 ·rw[if_neg hT]
  refine gg ?_
  exact⟨_,rfl,rfl,trivial⟩)
  ·rw[if_neg (fun q=>by rcases q with q | q;cases q;exact hn q),put_eq hi (show 1*c=c by omega) hS]
   refine gg ?_
   rw[decide_eq_false hn]
   refine⟨fun h=>absurd h (by simp),fun _=> ?_⟩
   refine gg ?_
   (
 have dX:=mC s c c g (by omega) pb key val bH dS z z' vb v0 v1
 have eH:=aw.add g c c key val
 generalize U.add s c c key val=A at dX eH⊢
 refine af (dX) Tryz.call81 3 [2,3,4] [0,0,0] [] ?_
 by_cases hA:A.1=0
 ·rw[if_pos hA]
  refine gg ?_
  rw[decide_eq_true hA]
  refine gg ?_
  refine af (jI (cJ.of l) cG z key l.length (l.length+4) 4 (di l 0).symm) Tryz.call82 (hrows:=⟨⟨fun _=>⟨Nat.lt_succ_self 1,Nat.lt_succ_self 1,trivial,trivial⟩,rfl⟩,⟨trivial,rfl⟩,trivial⟩) (hr2:=⟨fun _=>⟨rfl,rfl,trivial,trivial⟩,trivial,trivial⟩) 2 [40,41] [0,0] [] ?_
  have eI:aX (aT (l.map aj) key):=(nE _ _ cG.2)
  generalize aT (l.map aj) key=LK at eI⊢
  by_cases hL:0≤LK
  ·rw[if_pos hL]
   refine gg ?_
   rw[decide_eq_true hL]
   refine gg ?_
   refine af (kD A.2 c c eH (by omega) pb LK eI vb v0 v1) Tryz.call83 3 [2,3,4] [0,0,0] [] ?_
   refine gg ?_
   exact⟨_,rfl,rfl,trivial⟩
  ·rw[if_neg hL]
   refine gg ?_
   exact⟨_,rfl,rfl,trivial⟩
 ·rw[if_neg hA]
  refine gg ?_
  exact⟨_,rfl,rfl,trivial⟩)
end Go.Proofs.YtpbpiehcchannaaGreatDoor
