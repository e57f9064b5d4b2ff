/- Walks of lintelref09: Open. Conditions: none. -/
import Derived.Test.YtpbpiehcchannaaGreatDoorJHz
import Derived.Test.YtpbpiehcchannaaGreatDoorJHw
namespace Go.Proofs.YtpbpiehcchannaaGreatDoor
open Go.RowKit
set_option linter.unusedVariables false
set_option linter.unusedSimpArgs false
set_option maxRecDepth 100000
set_option maxHeartbeats 3000000
theorem Gn:∀(m:List UInt8)(k:Nat)(l:List UInt8)(ar w:Int),(dw m k l ar w).1=0→(dw m k l ar w).2.2.2.1=false
 | [],k,l,ar,w,h=>rfl
 | b::m,k,l,ar,w,h=>by
  rw[dw] at h⊢
  split at h
  ·simp at h
  ·rename_i hc
   rw[if_neg hc]
   exact Gn m _ _ _ _ h
theorem Ol{s:J}{a:Int}{m:List UInt8}(h:(s.prog a m).1=0):(s.prog a m).2.dd=false:=by
 unfold J.prog at h⊢
 split at h
 ·simp at h
 ·rename_i hd
  rw[if_neg hd]
  split at h
  ·rename_i hc
   rw[if_pos hc]
   exact Gn _ _ _ _ _ h
  ·simp at h
theorem Om(s:J)(c:Nat):s.b6 0 c 1 []=if(s.format 0 c 1).1=0 then(s.format 0 c 1).2.prog (((0:Nat):Int)*((s.format 0 c 1).2.k:Int)+12) [254] else s.format 0 c 1:=by
 unfold J.b6
 split
 ·exact if_pos rfl
 ·rfl
structure wi where
 k:Nat
 s:J
theorem On {W : Int} {n k X : Nat} (s : J) (c : Nat) (g : av W n k s) (pa : aC n k 0 c) (pb : aC n k c c) (vs va vb v0 v1 : Nat) : Spec Tryz.prog 129 [.ref 0 vs 3 0 0] [⟨vs, .obj [.ref 3 v0 7 0 0, .ref 1 va 3 0 0, .ref 2 vb 3 0 0]⟩, ⟨va, .obj [.ref 3 v0 7 0 0, .val (.int .i64 ((0 : Nat) : Int)), .val (.int .i64 (c : Int))]⟩, ⟨vb, .obj [.ref 3 v0 7 0 0, .val (.int .i64 (c : Int)), .val (.int .i64 (c : Int))]⟩, ⟨v0, .obj [.own 4 v1 1 0 s.l.length, .val (.int .i64 (X : Int)), .val (.int .i64 (s.k : Int)), .val (.int .i64 s.ar), .val (.int .i64 s.pt), .val (.bool s.dd), .val (.int .i64 s.wr)]⟩, ⟨v1, .bytes s.l⟩]
   (ak (.al [.any,.any,.any,.val (.bool (s.aI c).2.2)]) [⟨vs,.obj [.ref 3 v0 7 0 0,.ref 1 va 3 0 0,.ref 2 vb 3 0 0]⟩,⟨va,.obj [.ref 3 v0 7 0 0,.val (.int .i64 ((0:Nat):Int)),.val (.int .i64 (c:Int))]⟩,⟨vb,.obj [.ref 3 v0 7 0 0,.val (.int .i64 (c:Int)),.val (.int .i64 (c:Int))]⟩,⟨v0,.obj [.own 4 v1 1 0 s.l.length,.val (.int .i64 (X:Int)),.val (.int .i64 (s.k:Int)),.val (.int .i64 s.ar),.val (.int .i64 s.pt),.val (.bool s.dd),.val (.int .i64 s.wr)]⟩,⟨v1,.bytes s.l⟩] []):=by
 have h:=nc (X:=X) s c g pa pb vs va vb v0 v1
 unfold kc at h
 split at h
 ·exact br h trivial (AF.al (af.cons AF.any (af.cons AF.any (af.cons AF.any (af.cons AF.same af.nil))))) ⟨rfl,BF.same,rfl,BF.same,rfl,BF.same,rfl,BF.same,rfl,BF.same,trivial⟩
 ·exact br h trivial (AF.al (af.cons AF.any (af.cons AF.any (af.cons AF.any (af.cons AF.same af.nil))))) ⟨rfl,BF.same,rfl,BF.same,rfl,BF.same,rfl,BF.same,rfl,BF.same,trivial⟩
theorem AE {W : Int} {n k X : Nat} (s : J) (c : Nat) (g : av W n k s) (hW : W ≤ 100000000000000) (pa : aC n k 0 c) (pb : aC n k c c) (hX : X = 2 * c) (hn : n = 2 * c * k) (hd : s.dd = false) (v0 v1 : Nat) : Spec Tryz.prog 87 [.ref 0 v0 7 0 0] [⟨v0, .obj [.own 1 v1 1 0 s.l.length, .val (.int .i64 (X : Int)), .val (.int .i64 (s.k : Int)), .val (.int .i64 s.ar), .val (.int .i64 s.pt), .val (.bool s.dd), .val (.int .i64 s.wr)]⟩, ⟨v1, .bytes s.l⟩]
   (fun Y H=>((s.bg c).1=0→ak (.al [.ref 70 1 3 0 0,.val (.int .i64 0)]) [⟨v0,.obj [.own 1 v1 1 0 (s.bg c).2.l.length,.val (.int .i64 (X:Int)),.val (.int .i64 ((s.bg c).2.k:Int)),.val (.int .i64 (s.bg c).2.ar),.val (.int .i64 (s.bg c).2.pt),.val (.bool (s.bg c).2.dd),.val (.int .i64 (s.bg c).2.wr)]⟩,⟨v1,.bytes (s.bg c).2.l⟩] [(70,⟨1,.obj [.ref 0 v0 7 0 0,.ref 7 2 3 0 0,.ref 9 2 3 0 0]⟩),(7,⟨2,.obj [.ref 0 v0 7 0 0,.val (.int .i64 ((0:Nat):Int)),.val (.int .i64 (c:Int))]⟩),(9,⟨2,.obj [.ref 0 v0 7 0 0,.val (.int .i64 (c:Int)),.val (.int .i64 (c:Int))]⟩)] Y H)∧
    ((s.bg c).1≠0→ak (.al [.val (.pointer none),.val (.int .i64 (s.bg c).1)]) [⟨v0,.obj [.own 1 v1 1 0 (s.bg c).2.l.length,.val (.int .i64 (X:Int)),.val (.int .i64 ((s.bg c).2.k:Int)),.val (.int .i64 (s.bg c).2.ar),.val (.int .i64 (s.bg c).2.pt),.val (.bool (s.bg c).2.dd),.val (.int .i64 (s.bg c).2.wr)]⟩,⟨v1,.bytes (s.bg c).2.l⟩] [] Y H)):=by
 have cC:=g.kk
 have eA:=g.l
 have cu:=g.k
 have hlen:=g.len
 have eO:=pa.fa
 have kJ:c≤4194304:=pa.ac.2
 have cq:(c:Int)*(s.k:Int)=((c*k:Nat):Int):=by rw[cu];simp
 have fy:=pa.fit
 have AD:s.l.length=X*s.k:=by rw[eA,cu,hX,hn]
 refine aq aj Tryz.func87 rfl Tryz.ntmps87 Tryz.results87 ?_
 have Et:(X:Int)=2*(c:Int):=by omega
 have AL:X≤4194304:=by
  have h1:X*1≤X*k:=Nat.mul_le_mul_left X cC.1
  have h2:X*k=n:=by rw[hX,hn]
  omega
 refine gg (k:= ?_)
 rw[show(X:Int)/2=(c:Int) by omega,show(X:Int)%2=0 by omega]
 refine gg (k:= ?_)
 rw[decide_eq_false (by omega:¬(c:Int)*(s.k:Int)<64)]
 refine gg (k:= ?_)
 refine⟨fun h=>absurd (h.symm.trans hd) (by decide),fun _=> ?_⟩
 refine gg (k:= ?_)
 refine ae (FN (X:=X) s 0 c g pa (by omega) AL v0 v1) Tryz.call128 2 [0,1,0,0,0,0,0,0,0,0,0,0,0,0,0,0,0,0,0,0,0,0,0,0,0,0,0,0,0,0,0,0,0,0,0,0,0,0,0,0,0,0,0,0,0,0,0,0,0,7] [0,0,0,0,0,0,0,0,0,0,0,0,0,0,0,0,0,0,0,0,0,0,0,0,0,0,0,0,0,0,0,0,0,0,0,0,0,0,0,0,0,0,0,0,0,0,0,0,0,1] [49] ?_
 refine gg (k:= ?_)
 refine ae (FN (X:=X) s c c g pb (by omega) AL v0 v1) Tryz.call128 2 [0,1,0,0,0,0,0,0,0,0,0,0,0,0,0,0,0,0,0,0,0,0,0,0,0,0,0,0,0,0,0,0,0,0,0,0,0,0,0,0,0,0,0,0,0,0,0,0,0,9] [0,0,0,0,0,0,0,0,0,0,0,0,0,0,0,0,0,0,0,0,0,0,0,0,0,0,0,0,0,0,0,0,0,0,0,0,0,0,0,0,0,0,0,0,0,0,0,0,0,1] [49] ?_
 refine gg (k:= ?_)
 have wj:=On (X:=X) s c g pa pb 1 2 2 v0 v1
 have cH:=nc (X:=X) s c g pa pb 1 2 2 v0 v1
 have hO:=FQ hd c
 rw[hO]
 clear hO
 cases hr:(s.aI c).2.2 with
 | true=>
  rw[hr] at wj
  rw[if_neg (by decide)]
  refine ae (wj) Tryz.call129 5 [70,7,9,0,1] [0,0,0,0,0] [] ?_
  refine gg (k:= ?_)
  (
 have cM:=g.im pa pb
 have lZ:=cM.n
 unfold kc at cH
 have tH:J.tidy s c=J.dc s ((J.aI s c).1*c) c (J.au s c) 0 (J.au s c).length:=if_neg (by rw[hd];decide)
 rw[tH]
 clear tH
 obtain⟨l,hl⟩:∃l,l=J.au s c:=⟨_,rfl⟩
 rw[←hl] at lZ⊢
 rcases gC s c with aS | aS
 ·rw[if_neg (by omega)] at cH
  rw[show(J.aI s c).1*c=0 by rw[aS];omega]
  have hR:J.scan s 0 c=J.be s c:=by unfold J.be;rw[aS];congr 1;omega
  have gF:(J.be s c).1.map an=J.au s c:=rfl
  refine ae (cH) Tryz.call129 5 [70,7,9,0,1] [0,0,0,0,0] [] ?_
  refine gg (k:= ?_)
  refine ae (kH (X:=X) s 0 c g pa hd 2 v0 v1) Tryz.call132 (hX:=⟨fun _=>⟨trivial,trivial,trivial,trivial⟩,trivial,trivial,trivial,trivial⟩) 3 [7,0,1] [0,0,0] [] ?_
  rw[hR,gF,←hl]
  generalize lu:J.dc s 0 c l 0 l.length=T0
  (
 refine gg (k:= ?_)
 (refine ax (k:= ?_))
 conv=>whnf
 refine bh (fun y:wi=>y.k≤l.length∧y.s.dc 0 c l y.k (l.length - y.k)=T0∧av (W+y.k) n k y.s) (fun y=>l.length - y.k) 2 [2,3,23,24,102,103,104,105,106,107,108,109,110,111,112,113,114,115,116,117,118,119,120,121,122,123,124,125,126,127,128,129] (fun y=>[(23,.val (.int .i64 (y.k:Int)))]) (fun y=>[(0,⟨v0,.obj [.own 1 v1 1 0 y.s.l.length,.val (.int .i64 (X:Int)),.val (.int .i64 (y.s.k:Int)),.val (.int .i64 y.s.ar),.val (.int .i64 y.s.pt),.val (.bool y.s.dd),.val (.int .i64 y.s.wr)]⟩),(1,⟨v1,.bytes y.s.l⟩)]) ⟨0,s⟩ ⟨Nat.zero_le _,lu,by simpa using g⟩ ?_ ?_ ?_
 ·exact no_implicit_lambda%ten
 ·exact no_implicit_lambda%az
 ·rintro⟨j,t⟩ v ⟨j1,j2,j3⟩
  simp only at j1 j2 j3
  refine bc (k:= ?_)
  refine gg (k:= ?_)
  refine⟨fun h'=> ?_,fun h'=> ?_⟩
  ·have ai:j<l.length:=by have:=of_decide_eq_true h';omega
   rw[show l.length - j=(l.length - (j+1))+1 by omega,J.dc] at j2
   generalize fG:l.getD j bl=x at j2
   obtain⟨dk,dv,dl⟩:=x
   simp only at j2
   refine gg (k:= ?_)
   simp only[Int.toNat_natCast,fG]
   cases dl with
   | false=>
    rw[if_neg (fun q=>by cases q.1)] at j2
    refine gg (k:= ?_)
    intro _
    refine gg (k:= ?_)
    refine aM ⟨j+1,t⟩ ⟨ai,j2,j3.mono (by simp only;omega)⟩ (by show l.length - (j+1)<l.length - j;omega) ?_ ?_
    ·exact no_implicit_lambda%ten
    ·exact no_implicit_lambda%az
   | true=>
    refine gg (k:= ?_)
    (try simp only[Int.toNat_natCast,fG])
    refine gg (k:= ?_)
    refine aP (tt l dk (by omega)) Tryz.call133 [] (hon:=⟨fun _=>⟨trivial,trivial,trivial,trivial⟩,trivial,trivial⟩) ?_
    by_cases hq:aJ l dk=(j:Int)
    ·rw[if_neg (fun q=>q.2 hq)] at j2
     refine gg (k:= ?_)
     rw[decide_eq_true hq]
     refine gg (k:= ?_)
     refine aM ⟨j+1,t⟩ ⟨ai,j2,j3.mono (by simp only;omega)⟩ (by show l.length - (j+1)<l.length - j;omega) ?_ ?_
     ·exact no_implicit_lambda%ten
     ·exact no_implicit_lambda%az
    ·rw[if_pos ⟨rfl,hq⟩] at j2
     have ir:=kI (X:=X) t 0 c j3 (by omega) pa (j:Int) (by unfold aG;omega) 2 v0 v1
     have gk:=j3.kill 0 c (j:Int)
     generalize t.kill 0 c (j:Int)=T at j2 ir gk
     refine gg (k:= ?_)
     rw[decide_eq_false hq]
     refine gg (k:= ?_)
     refine ae (ir) Tryz.call134 3 [7,0,1] [0,0,0] [] ?_
     by_cases hz:T.1=0
     ·rw[if_pos hz] at j2
      refine gg (k:= ?_)
      rw[decide_eq_true hz]
      refine gg (k:= ?_)
      refine aM ⟨j+1,T.2⟩ ⟨ai,j2,gk.mono (by simp only;omega)⟩ (by show l.length - (j+1)<l.length - j;omega) ?_ ?_
      ·exact no_implicit_lambda%ten
      ·exact no_implicit_lambda%az
     ·rw[if_neg hz] at j2
      subst j2
      refine gg (k:= ?_)
      exact fun _=>⟨_,rfl,rfl,trivial⟩
  ·obtain rfl:j=l.length:=by have:=of_decide_eq_false h';omega
   rw[Nat.sub_self,J.dc] at j2
   subst j2
   refine gg (k:= ?_)
   exact⟨fun _=>⟨_,rfl,rfl,rfl,rfl,rfl,trivial⟩,fun h=>absurd rfl h⟩)
 ·rw[if_pos aS] at cH
  rw[show(J.aI s c).1*c=c by rw[aS];omega]
  have hR:J.scan s c c=J.be s c:=by unfold J.be;rw[aS];congr 1;omega
  have gF:(J.be s c).1.map an=J.au s c:=rfl
  refine ae (cH) Tryz.call129 5 [70,7,9,0,1] [0,0,0,0,0] [] ?_
  refine gg (k:= ?_)
  refine ae (kH (X:=X) s c c g pb hd 2 v0 v1) Tryz.call132 (hX:=⟨fun _=>⟨trivial,trivial,trivial,trivial⟩,trivial,trivial,trivial,trivial⟩) 3 [9,0,1] [0,0,0] [] ?_
  rw[hR,gF,←hl]
  generalize lu:J.dc s c c l 0 l.length=T0
  (
 refine gg (k:= ?_)
 (refine ax (k:= ?_))
 conv=>whnf
 refine bh (fun y:wi=>y.k≤l.length∧y.s.dc c c l y.k (l.length - y.k)=T0∧av (W+y.k) n k y.s) (fun y=>l.length - y.k) 2 [2,3,23,24,102,103,104,105,106,107,108,109,110,111,112,113,114,115,116,117,118,119,120,121,122,123,124,125,126,127,128,129] (fun y=>[(23,.val (.int .i64 (y.k:Int)))]) (fun y=>[(0,⟨v0,.obj [.own 1 v1 1 0 y.s.l.length,.val (.int .i64 (X:Int)),.val (.int .i64 (y.s.k:Int)),.val (.int .i64 y.s.ar),.val (.int .i64 y.s.pt),.val (.bool y.s.dd),.val (.int .i64 y.s.wr)]⟩),(1,⟨v1,.bytes y.s.l⟩)]) ⟨0,s⟩ ⟨Nat.zero_le _,lu,by simpa using g⟩ ?_ ?_ ?_
 ·exact no_implicit_lambda%ten
 ·exact no_implicit_lambda%az
 ·rintro⟨j,t⟩ v ⟨j1,j2,j3⟩
  simp only at j1 j2 j3
  refine bc (k:= ?_)
  refine gg (k:= ?_)
  refine⟨fun h'=> ?_,fun h'=> ?_⟩
  ·have ai:j<l.length:=by have:=of_decide_eq_true h';omega
   rw[show l.length - j=(l.length - (j+1))+1 by omega,J.dc] at j2
   generalize fG:l.getD j bl=x at j2
   obtain⟨dk,dv,dl⟩:=x
   simp only at j2
   refine gg (k:= ?_)
   simp only[Int.toNat_natCast,fG]
   cases dl with
   | false=>
    rw[if_neg (fun q=>by cases q.1)] at j2
    refine gg (k:= ?_)
    intro _
    refine gg (k:= ?_)
    refine aM ⟨j+1,t⟩ ⟨ai,j2,j3.mono (by simp only;omega)⟩ (by show l.length - (j+1)<l.length - j;omega) ?_ ?_
    ·exact no_implicit_lambda%ten
    ·exact no_implicit_lambda%az
   | true=>
    refine gg (k:= ?_)
    (try simp only[Int.toNat_natCast,fG])
    refine gg (k:= ?_)
    refine aP (tt l dk (by omega)) Tryz.call133 [] (hon:=⟨fun _=>⟨trivial,trivial,trivial,trivial⟩,trivial,trivial⟩) ?_
    by_cases hq:aJ l dk=(j:Int)
    ·rw[if_neg (fun q=>q.2 hq)] at j2
     refine gg (k:= ?_)
     rw[decide_eq_true hq]
     refine gg (k:= ?_)
     refine aM ⟨j+1,t⟩ ⟨ai,j2,j3.mono (by simp only;omega)⟩ (by show l.length - (j+1)<l.length - j;omega) ?_ ?_
     ·exact no_implicit_lambda%ten
     ·exact no_implicit_lambda%az
    ·rw[if_pos ⟨rfl,hq⟩] at j2
     have ir:=kI (X:=X) t c c j3 (by omega) pb (j:Int) (by unfold aG;omega) 2 v0 v1
     have gk:=j3.kill c c (j:Int)
     generalize t.kill c c (j:Int)=T at j2 ir gk
     refine gg (k:= ?_)
     rw[decide_eq_false hq]
     refine gg (k:= ?_)
     refine ae (ir) Tryz.call134 3 [9,0,1] [0,0,0] [] ?_
     by_cases hz:T.1=0
     ·rw[if_pos hz] at j2
      refine gg (k:= ?_)
      rw[decide_eq_true hz]
      refine gg (k:= ?_)
      refine aM ⟨j+1,T.2⟩ ⟨ai,j2,gk.mono (by simp only;omega)⟩ (by show l.length - (j+1)<l.length - j;omega) ?_ ?_
      ·exact no_implicit_lambda%ten
      ·exact no_implicit_lambda%az
     ·rw[if_neg hz] at j2
      subst j2
      refine gg (k:= ?_)
      exact fun _=>⟨_,rfl,rfl,trivial⟩
  ·obtain rfl:j=l.length:=by have:=of_decide_eq_false h';omega
   rw[Nat.sub_self,J.dc] at j2
   subst j2
   refine gg (k:= ?_)
   exact⟨fun _=>⟨_,rfl,rfl,rfl,rfl,rfl,trivial⟩,fun h=>absurd rfl h⟩))
 | false=>
  rw[hr] at wj
  rw[if_pos rfl]
  refine ae (wj) Tryz.call129 5 [70,7,9,0,1] [0,0,0,0,0] [] ?_
  refine gg (k:= ?_)
  have hf:=Al (X:=X) s 0 c g (by omega) AD pa 1 (by decide) 2 v0 v1
  have gf:=g.format 0 c 1
  rw[Om]
  generalize s.format 0 c 1=F at hf gf⊢
  refine ae (hf) Tryz.call130 3 [7,0,1] [0,0,0] [] ?_
  by_cases hF:F.1=0
  ·rw[if_pos hF]
   have hy:=Aj (X:=X) F.2 0 c gf (by omega) pa 2 v0 v1
   have gB:=gf.prog (((0:Nat):Int)*(F.2.k:Int)+12) [254]
   have eJ:=Ol (s:=F.2) (a:=((0:Nat):Int)*(F.2.k:Int)+12) (m:=[254])
   generalize F.2.prog (((0:Nat):Int)*(F.2.k:Int)+12) [254]=B at hy gB eJ⊢
   refine gg (k:= ?_)
   rw[decide_eq_true hF]
   refine gg (k:= ?_)
   refine ae (hy) Tryz.call131 3 [7,0,1] [0,0,0] [] ?_
   by_cases hB:B.1=0
   ·rw[if_pos hB]
    have AM:=eJ hB
    have tI:=nc (X:=X) B.2 c gB pa pb 1 2 2 v0 v1
    refine gg (k:= ?_)
    rw[decide_eq_true hB]
    refine gg (k:= ?_)
    (
 have cM:=gB.im pa pb
 have lZ:=cM.n
 unfold kc at tI
 have tH:J.tidy B.2 c=J.dc B.2 ((J.aI B.2 c).1*c) c (J.au B.2 c) 0 (J.au B.2 c).length:=if_neg (by rw[AM];decide)
 rw[tH]
 clear tH
 obtain⟨l,hl⟩:∃l,l=J.au B.2 c:=⟨_,rfl⟩
 rw[←hl] at lZ⊢
 rcases gC B.2 c with aS | aS
 ·rw[if_neg (by omega)] at tI
  rw[show(J.aI B.2 c).1*c=0 by rw[aS];omega]
  have hR:J.scan B.2 0 c=J.be B.2 c:=by unfold J.be;rw[aS];congr 1;omega
  have gF:(J.be B.2 c).1.map an=J.au B.2 c:=rfl
  refine ae (tI) Tryz.call129 5 [70,7,9,0,1] [0,0,0,0,0] [] ?_
  refine gg (k:= ?_)
  refine ae (kH (X:=X) B.2 0 c gB pa AM 2 v0 v1) Tryz.call132 (hX:=⟨fun _=>⟨trivial,trivial,trivial,trivial⟩,trivial,trivial,trivial,trivial⟩) 3 [7,0,1] [0,0,0] [] ?_
  rw[hR,gF,←hl]
  generalize lu:J.dc B.2 0 c l 0 l.length=T0
  (
 refine gg (k:= ?_)
 (refine ax (k:= ?_))
 conv=>whnf
 refine bh (fun y:wi=>y.k≤l.length∧y.s.dc 0 c l y.k (l.length - y.k)=T0∧av ((W+c+12+1)+y.k) n k y.s) (fun y=>l.length - y.k) 2 [2,3,23,24,102,103,104,105,106,107,108,109,110,111,112,113,114,115,116,117,118,119,120,121,122,123,124,125,126,127,128,129] (fun y=>[(23,.val (.int .i64 (y.k:Int)))]) (fun y=>[(0,⟨v0,.obj [.own 1 v1 1 0 y.s.l.length,.val (.int .i64 (X:Int)),.val (.int .i64 (y.s.k:Int)),.val (.int .i64 y.s.ar),.val (.int .i64 y.s.pt),.val (.bool y.s.dd),.val (.int .i64 y.s.wr)]⟩),(1,⟨v1,.bytes y.s.l⟩)]) ⟨0,B.2⟩ ⟨Nat.zero_le _,lu,by simpa using gB⟩ ?_ ?_ ?_
 ·exact no_implicit_lambda%ten
 ·exact no_implicit_lambda%az
 ·rintro⟨j,t⟩ v ⟨j1,j2,j3⟩
  simp only at j1 j2 j3
  refine bc (k:= ?_)
  refine gg (k:= ?_)
  refine⟨fun h'=> ?_,fun h'=> ?_⟩
  ·have ai:j<l.length:=by have:=of_decide_eq_true h';omega
   rw[show l.length - j=(l.length - (j+1))+1 by omega,J.dc] at j2
   generalize fG:l.getD j bl=x at j2
   obtain⟨dk,dv,dl⟩:=x
   simp only at j2
   refine gg (k:= ?_)
   simp only[Int.toNat_natCast,fG]
   cases dl with
   | false=>
    rw[if_neg (fun q=>by cases q.1)] at j2
    refine gg (k:= ?_)
    intro _
    refine gg (k:= ?_)
    refine aM ⟨j+1,t⟩ ⟨ai,j2,j3.mono (by simp only;omega)⟩ (by show l.length - (j+1)<l.length - j;omega) ?_ ?_
    ·exact no_implicit_lambda%ten
    ·exact no_implicit_lambda%az
   | true=>
    refine gg (k:= ?_)
    (try simp only[Int.toNat_natCast,fG])
    refine gg (k:= ?_)
    refine aP (tt l dk (by omega)) Tryz.call133 [] (hon:=⟨fun _=>⟨trivial,trivial,trivial,trivial⟩,trivial,trivial⟩) ?_
    by_cases hq:aJ l dk=(j:Int)
    ·rw[if_neg (fun q=>q.2 hq)] at j2
     refine gg (k:= ?_)
     rw[decide_eq_true hq]
     refine gg (k:= ?_)
     refine aM ⟨j+1,t⟩ ⟨ai,j2,j3.mono (by simp only;omega)⟩ (by show l.length - (j+1)<l.length - j;omega) ?_ ?_
     ·exact no_implicit_lambda%ten
     ·exact no_implicit_lambda%az
    ·rw[if_pos ⟨rfl,hq⟩] at j2
     have ir:=kI (X:=X) t 0 c j3 (by omega) pa (j:Int) (by unfold aG;omega) 2 v0 v1
     have gk:=j3.kill 0 c (j:Int)
     generalize t.kill 0 c (j:Int)=T at j2 ir gk
     refine gg (k:= ?_)
     rw[decide_eq_false hq]
     refine gg (k:= ?_)
     refine ae (ir) Tryz.call134 3 [7,0,1] [0,0,0] [] ?_
     by_cases hz:T.1=0
     ·rw[if_pos hz] at j2
      refine gg (k:= ?_)
      rw[decide_eq_true hz]
      refine gg (k:= ?_)
      refine aM ⟨j+1,T.2⟩ ⟨ai,j2,gk.mono (by simp only;omega)⟩ (by show l.length - (j+1)<l.length - j;omega) ?_ ?_
      ·exact no_implicit_lambda%ten
      ·exact no_implicit_lambda%az
     ·rw[if_neg hz] at j2
      subst j2
      refine gg (k:= ?_)
      exact fun _=>⟨_,rfl,rfl,trivial⟩
  ·obtain rfl:j=l.length:=by have:=of_decide_eq_false h';omega
   rw[Nat.sub_self,J.dc] at j2
   subst j2
   refine gg (k:= ?_)
   exact⟨fun _=>⟨_,rfl,rfl,rfl,rfl,rfl,trivial⟩,fun h=>absurd rfl h⟩)
 ·rw[if_pos aS] at tI
  rw[show(J.aI B.2 c).1*c=c by rw[aS];omega]
  have hR:J.scan B.2 c c=J.be B.2 c:=by unfold J.be;rw[aS];congr 1;omega
  have gF:(J.be B.2 c).1.map an=J.au B.2 c:=rfl
  refine ae (tI) Tryz.call129 5 [70,7,9,0,1] [0,0,0,0,0] [] ?_
  refine gg (k:= ?_)
  refine ae (kH (X:=X) B.2 c c gB pb AM 2 v0 v1) Tryz.call132 (hX:=⟨fun _=>⟨trivial,trivial,trivial,trivial⟩,trivial,trivial,trivial,trivial⟩) 3 [9,0,1] [0,0,0] [] ?_
  rw[hR,gF,←hl]
  generalize lu:J.dc B.2 c c l 0 l.length=T0
  (
 refine gg (k:= ?_)
 (refine ax (k:= ?_))
 conv=>whnf
 refine bh (fun y:wi=>y.k≤l.length∧y.s.dc c c l y.k (l.length - y.k)=T0∧av ((W+c+12+1)+y.k) n k y.s) (fun y=>l.length - y.k) 2 [2,3,23,24,102,103,104,105,106,107,108,109,110,111,112,113,114,115,116,117,118,119,120,121,122,123,124,125,126,127,128,129] (fun y=>[(23,.val (.int .i64 (y.k:Int)))]) (fun y=>[(0,⟨v0,.obj [.own 1 v1 1 0 y.s.l.length,.val (.int .i64 (X:Int)),.val (.int .i64 (y.s.k:Int)),.val (.int .i64 y.s.ar),.val (.int .i64 y.s.pt),.val (.bool y.s.dd),.val (.int .i64 y.s.wr)]⟩),(1,⟨v1,.bytes y.s.l⟩)]) ⟨0,B.2⟩ ⟨Nat.zero_le _,lu,by simpa using gB⟩ ?_ ?_ ?_
 ·exact no_implicit_lambda%ten
 ·exact no_implicit_lambda%az
 ·rintro⟨j,t⟩ v ⟨j1,j2,j3⟩
  simp only at j1 j2 j3
  refine bc (k:= ?_)
  refine gg (k:= ?_)
  refine⟨fun h'=> ?_,fun h'=> ?_⟩
  ·have ai:j<l.length:=by have:=of_decide_eq_true h';omega
   rw[show l.length - j=(l.length - (j+1))+1 by omega,J.dc] at j2
   generalize fG:l.getD j bl=x at j2
   obtain⟨dk,dv,dl⟩:=x
   simp only at j2
   refine gg (k:= ?_)
   simp only[Int.toNat_natCast,fG]
   cases dl with
   | false=>
    rw[if_neg (fun q=>by cases q.1)] at j2
    refine gg (k:= ?_)
    intro _
    refine gg (k:= ?_)
    refine aM ⟨j+1,t⟩ ⟨ai,j2,j3.mono (by simp only;omega)⟩ (by show l.length - (j+1)<l.length - j;omega) ?_ ?_
    ·exact no_implicit_lambda%ten
    ·exact no_implicit_lambda%az
   | true=>
    refine gg (k:= ?_)
    (try simp only[Int.toNat_natCast,fG])
    refine gg (k:= ?_)
    refine aP (tt l dk (by omega)) Tryz.call133 [] (hon:=⟨fun _=>⟨trivial,trivial,trivial,trivial⟩,trivial,trivial⟩) ?_
    by_cases hq:aJ l dk=(j:Int)
    ·rw[if_neg (fun q=>q.2 hq)] at j2
     refine gg (k:= ?_)
     rw[decide_eq_true hq]
     refine gg (k:= ?_)
     refine aM ⟨j+1,t⟩ ⟨ai,j2,j3.mono (by simp only;omega)⟩ (by show l.length - (j+1)<l.length - j;omega) ?_ ?_
     ·exact no_implicit_lambda%ten
     ·exact no_implicit_lambda%az
    ·rw[if_pos ⟨rfl,hq⟩] at j2
     have ir:=kI (X:=X) t c c j3 (by omega) pb (j:Int) (by unfold aG;omega) 2 v0 v1
     have gk:=j3.kill c c (j:Int)
     generalize t.kill c c (j:Int)=T at j2 ir gk
     refine gg (k:= ?_)
     rw[decide_eq_false hq]
     refine gg (k:= ?_)
     refine ae (ir) Tryz.call134 3 [9,0,1] [0,0,0] [] ?_
     by_cases hz:T.1=0
     ·rw[if_pos hz] at j2
      refine gg (k:= ?_)
      rw[decide_eq_true hz]
      refine gg (k:= ?_)
      refine aM ⟨j+1,T.2⟩ ⟨ai,j2,gk.mono (by simp only;omega)⟩ (by show l.length - (j+1)<l.length - j;omega) ?_ ?_
      ·exact no_implicit_lambda%ten
      ·exact no_implicit_lambda%az
     ·rw[if_neg hz] at j2
      subst j2
      refine gg (k:= ?_)
      exact fun _=>⟨_,rfl,rfl,trivial⟩
  ·obtain rfl:j=l.length:=by have:=of_decide_eq_false h';omega
   rw[Nat.sub_self,J.dc] at j2
   subst j2
   refine gg (k:= ?_)
   exact⟨fun _=>⟨_,rfl,rfl,rfl,rfl,rfl,trivial⟩,fun h=>absurd rfl h⟩))
   ·rw[if_neg hB]
    refine gg (k:= ?_)
    exact⟨fun h=>absurd h hB,fun _=>⟨_,rfl,rfl,trivial⟩⟩
  ·rw[if_neg hF,if_neg hF]
   refine gg (k:= ?_)
   exact⟨fun h=>absurd h hF,fun _=>⟨_,rfl,rfl,trivial⟩⟩
end Go.Proofs.YtpbpiehcchannaaGreatDoor
