/- Walks of lintelref07: the document's flash. Walks of lintelref07: Program, Erase, Read. Walks of lintelref07: Erase, Read. Walks of lintelref07: Read, New. Walks of lintelref07: New. Conditions: the premises of each law. -/
import Derived.Test.YtpbpiehcchannaaGreatDoorJGf
import Derived.Test.YtpbpiehcchannaaGreatDoorJGl
import Derived.Test.YtpbpiehcchannaaGreatDoorJHa
import Derived.Test.YtpbpiehcchannaaGreatDoorJAp
namespace Go.Proofs.YtpbpiehcchannaaGreatDoor
open Go.RowKit
set_option linter.unusedVariables false
set_option linter.unusedSimpArgs false
set_option maxRecDepth 100000
set_option maxHeartbeats 1500000
theorem Fj(s:J)(x:Nat)(a b:Int)(v0 v1:Nat):Spec Tryz.prog 93 [.ref 0 v0 7 0 0,.val (.int .i64 a),.val (.int .i64 b)] [⟨v0,.obj [.own 1 v1 1 0 s.l.length,.val (.int .i64 (x:Int)),.val (.int .i64 (s.k:Int)),.val (.int .i64 s.ar),.val (.int .i64 s.pt),.val (.bool s.dd),.val (.int .i64 s.wr)]⟩,⟨v1,.bytes s.l⟩] (ak (.val (.int .i64 (s.arm a b).1)) [⟨v0,.obj [.own 1 v1 1 0 (s.arm a b).2.l.length,.val (.int .i64 (x:Int)),.val (.int .i64 ((s.arm a b).2.k:Int)),.val (.int .i64 (s.arm a b).2.ar),.val (.int .i64 (s.arm a b).2.pt),.val (.bool (s.arm a b).2.dd),.val (.int .i64 (s.arm a b).2.wr)]⟩,⟨v1,.bytes (s.arm a b).2.l⟩] []):=by
 obtain⟨l,k,ar,pt,dd,wr⟩:=s
 refine aq aj Tryz.func93 rfl Tryz.ntmps93 Tryz.results93 ?_
 unfold J.arm
 cases dd with
 | true=>
  refine gg (k:= ?_)
  exact⟨_,rfl,rfl,trivial⟩
 | false=>
  simp only[Bool.false_eq_true,if_false]
  by_cases h:a<0∨b<0
  ·rw[if_pos h]
   refine gg (k:= ?_)
   exact⟨_,rfl,rfl,trivial⟩
  ·rw[if_neg h]
   refine gg (k:= ?_)
   exact⟨_,rfl,rfl,trivial⟩
theorem Fk(s:J)(x:Nat)(v0 v1:Nat):Spec Tryz.prog 94 [.ref 0 v0 7 0 0] [⟨v0,.obj [.own 1 v1 1 0 s.l.length,.val (.int .i64 (x:Int)),.val (.int .i64 (s.k:Int)),.val (.int .i64 s.ar),.val (.int .i64 s.pt),.val (.bool s.dd),.val (.int .i64 s.wr)]⟩,⟨v1,.bytes s.l⟩] (ak (.val (.int .i64 s.on.1)) [⟨v0,.obj [.own 1 v1 1 0 s.on.2.l.length,.val (.int .i64 (x:Int)),.val (.int .i64 (s.on.2.k:Int)),.val (.int .i64 s.on.2.ar),.val (.int .i64 s.on.2.pt),.val (.bool s.on.2.dd),.val (.int .i64 s.on.2.wr)]⟩,⟨v1,.bytes s.on.2.l⟩] []):=by
 obtain⟨l,k,ar,pt,dd,wr⟩:=s
 refine aq aj Tryz.func94 rfl Tryz.ntmps94 Tryz.results94 ?_
 unfold J.on
 cases dd with
 | true=>
  simp only[if_true]
  refine gg (k:= ?_)
  exact⟨_,rfl,rfl,trivial⟩
 | false=>
  simp only[Bool.false_eq_true,if_false]
  refine gg (k:= ?_)
  exact⟨_,rfl,rfl,trivial⟩
theorem mW(s:J)(x:Nat)(v0 v1:Nat):Spec Tryz.prog 37 [.ref 0 v0 7 0 0] [⟨v0,.obj [.own 1 v1 1 0 s.l.length,.val (.int .i64 (x:Int)),.val (.int .i64 (s.k:Int)),.val (.int .i64 s.ar),.val (.int .i64 s.pt),.val (.bool s.dd),.val (.int .i64 s.wr)]⟩,⟨v1,.bytes s.l⟩] (ak (.val (.int .i64 s.wr)) [⟨v0,.obj [.own 1 v1 1 0 s.l.length,.val (.int .i64 (x:Int)),.val (.int .i64 (s.k:Int)),.val (.int .i64 s.ar),.val (.int .i64 s.pt),.val (.bool s.dd),.val (.int .i64 s.wr)]⟩,⟨v1,.bytes s.l⟩] []):=by
 refine aq aj Tryz.func37 rfl Tryz.ntmps37 Tryz.results37 ?_
 refine gg (k:= ?_)
 exact⟨_,rfl,rfl,trivial⟩
def J.pow(s:J):J:=if 0<s.ar then⟨s.l,s.k,s.ar - 1,s.pt,if s.ar - 1=0 then true else s.dd,s.wr⟩ else s
theorem Fl(s:J)(ha:aG s.ar)(x:Nat)(v0 v1:Nat):Spec Tryz.prog 208 [.ref 0 v0 7 0 0] [⟨v0,.obj [.own 1 v1 1 0 s.l.length,.val (.int .i64 (x:Int)),.val (.int .i64 (s.k:Int)),.val (.int .i64 s.ar),.val (.int .i64 s.pt),.val (.bool s.dd),.val (.int .i64 s.wr)]⟩,⟨v1,.bytes s.l⟩] (ak (.val (.bool (!s.pow.dd))) [⟨v0,.obj [.own 1 v1 1 0 s.pow.l.length,.val (.int .i64 (x:Int)),.val (.int .i64 (s.pow.k:Int)),.val (.int .i64 s.pow.ar),.val (.int .i64 s.pow.pt),.val (.bool s.pow.dd),.val (.int .i64 s.pow.wr)]⟩,⟨v1,.bytes s.pow.l⟩] []):=by
 obtain⟨l,k,ar,pt,dd,wr⟩:=s
 simp only[aG] at ha
 refine aq aj Tryz.func208 rfl Tryz.ntmps208 Tryz.results208 ?_
 unfold J.pow
 simp only
 by_cases h0:0<ar
 ·rw[if_pos h0]
  by_cases h1:ar - 1=0
  ·simp only[if_pos h1]
   refine gg (k:= ?_)
   exact⟨_,rfl,rfl,trivial⟩
  ·simp only[if_neg h1]
   refine gg (k:= ?_)
   exact⟨_,rfl,rfl,trivial⟩
 ·rw[if_neg h0]
  refine gg (k:= ?_)
  exact⟨_,rfl,rfl,trivial⟩
theorem Fm(s:J)(hl:s.l.length≤140737488355328)(x:Nat)(v0 v1:Nat):Spec Tryz.prog 38 [.ref 0 v0 7 0 0] [⟨v0,.obj [.own 1 v1 1 0 s.l.length,.val (.int .i64 (x:Int)),.val (.int .i64 (s.k:Int)),.val (.int .i64 s.ar),.val (.int .i64 s.pt),.val (.bool s.dd),.val (.int .i64 s.wr)]⟩,⟨v1,.bytes s.l⟩] (ak (.bs 0 s.l) [⟨v0,.obj [.own 1 v1 1 0 s.l.length,.val (.int .i64 (x:Int)),.val (.int .i64 (s.k:Int)),.val (.int .i64 s.ar),.val (.int .i64 s.pt),.val (.bool s.dd),.val (.int .i64 s.wr)]⟩,⟨v1,.bytes s.l⟩] []):=by
 have h:Spec Tryz.prog 38 [.ref 0 v0 7 0 0] [⟨v0,.obj [.own 1 v1 1 0 s.l.length,.val (.int .i64 (x:Int)),.val (.int .i64 (s.k:Int)),.val (.int .i64 s.ar),.val (.int .i64 s.pt),.val (.bool s.dd),.val (.int .i64 s.wr)]⟩,⟨v1,.bytes s.l⟩] (ak (.own 7 2 1 0 s.l.length) [⟨v0,.obj [.own 1 v1 1 0 s.l.length,.val (.int .i64 (x:Int)),.val (.int .i64 (s.k:Int)),.val (.int .i64 s.ar),.val (.int .i64 s.pt),.val (.bool s.dd),.val (.int .i64 s.wr)]⟩,⟨v1,.bytes s.l⟩] [(7,⟨2,.bytes s.l⟩)]):=by
  refine aq aj Tryz.func38 rfl Tryz.ntmps38 Tryz.results38 ?_
  refine gg (k:= ?_)
  conv=>whnf
  refine⟨s.l,?_⟩
  refine And.intro ⟨rfl,⟨rfl,rfl,by omega⟩,rfl,rfl,rfl,rfl,rfl,by rw[List.drop_zero,List.take_length],by show(0+s.l.length)*1≤_;omega,by decide⟩ ?_
  refine gg (k:= ?_)
  refine⟨_,?_,rfl,rfl,trivial⟩
  simp only[jw,List.map_nil,List.length_nil,Nat.zero_add]
 exact br h (by simp[ef]) (AF.own rfl rfl) ⟨rfl,BF.same,rfl,BF.same,trivial⟩
end Go.Proofs.YtpbpiehcchannaaGreatDoor
namespace Go.Proofs.YtpbpiehcchannaaGreatDoor
open Go.RowKit
set_option linter.unusedVariables false
set_option linter.unusedSimpArgs false
set_option maxRecDepth 100000
set_option maxHeartbeats 1500000
theorem MA(x y:UInt8):UInt8.ofNat (((((x.toNat:Int)).toNat&&&((y.toNat:Int)).toNat:Nat):Int)).toNat=x&&&y:=by
 rw[Int.toNat_natCast,Int.toNat_natCast,Int.toNat_natCast,←UInt8.toNat_and,UInt8.ofNat_toNat]
theorem Ab(z:Nat)(s:J)(ha:aG s.ar)(hw:0≤s.wr∧s.wr≤1000000000000000000)(hl:s.l.length≤140737488355328)(m:List UInt8)(eX:m.length≤140737488355328)(a:Int)(pJ:aG a)(x:Nat)(v0 v1:Nat):Spec Tryz.prog 172 [.ref 0 v0 7 0 0,.val (.int .i64 a),.bs z m] [⟨v0,.obj [.own 1 v1 1 0 s.l.length,.val (.int .i64 (x:Int)),.val (.int .i64 (s.k:Int)),.val (.int .i64 s.ar),.val (.int .i64 s.pt),.val (.bool s.dd),.val (.int .i64 s.wr)]⟩,⟨v1,.bytes s.l⟩] (ak (.val (.int .i64 (s.prog a m).1)) [⟨v0,.obj [.own 1 v1 1 0 (s.prog a m).2.l.length,.val (.int .i64 (x:Int)),.val (.int .i64 ((s.prog a m).2.k:Int)),.val (.int .i64 (s.prog a m).2.ar),.val (.int .i64 (s.prog a m).2.pt),.val (.bool (s.prog a m).2.dd),.val (.int .i64 (s.prog a m).2.wr)]⟩,⟨v1,.bytes (s.prog a m).2.l⟩] []):=by
 simp only[aG] at pJ ha
 rcases Bool.eq_false_or_eq_true s.dd with hd | hd
 ·rw[show s.prog a m=(6,s) by unfold J.prog;rw[if_pos hd]]
  refine aq aj Tryz.func172 rfl Tryz.ntmps172 Tryz.results172 ?_
  rw[hd]
  refine gg (k:= ?_)
  rw[←hd]
  exact⟨_,rfl,rfl,trivial⟩
 by_cases bV:0≤a∧a+m.length≤s.l.length
 case neg=>
  rw[show s.prog a m=(1,s) by unfold J.prog;rw[hd,if_neg (by simp),if_neg bV]]
  refine aq aj Tryz.func172 rfl Tryz.ntmps172 Tryz.results172 ?_
  rw[hd]
  have hc:a<0∨(0≤a∧(s.l.length:Int)<a)∨(0≤a∧a≤s.l.length∧(s.l.length:Int) - a<m.length):=by omega
  rcases hc with h | h | h
  ·refine gg (k:= ?_)
   rw[decide_eq_true h,Bool.true_or]
   refine gg (k:= ?_)
   refine⟨fun _=> ?_,fun h=>absurd h (by simp)⟩
   refine gg (k:= ?_)
   rw[←hd]
   exact⟨_,rfl,rfl,trivial⟩
  ·refine gg (k:= ?_)
   rw[←hd]
   exact⟨_,rfl,rfl,trivial⟩
  ·refine gg (k:= ?_)
   rw[←hd]
   exact⟨_,rfl,rfl,trivial⟩
 obtain⟨h0,h1⟩:=bV
 have Fo:s.prog a m=((dw m a.toNat s.l s.ar s.wr).1,⟨(dw m a.toNat s.l s.ar s.wr).2.1,s.k,(dw m a.toNat s.l s.ar s.wr).2.2.1,s.pt,(dw m a.toNat s.l s.ar s.wr).2.2.2.1,(dw m a.toNat s.l s.ar s.wr).2.2.2.2⟩):=by
  unfold J.prog
  rw[hd,if_neg (by simp),if_pos ⟨h0,h1⟩]
 rw[Fo]
 clear Fo
 obtain⟨A,hA⟩:∃A:Nat,a=(A:Int):=⟨a.toNat,by omega⟩
 subst hA
 rw[Int.toNat_natCast]
 obtain⟨k,pt,hk,cZ⟩:∃k pt,k=s.k∧pt=s.pt:=⟨_,_,rfl,rfl⟩
 have Fp:=vu m A s.l s.ar s.wr
 generalize MB:dw m A s.l s.ar s.wr=PR at Fp⊢
 rw[Fp]
 refine aq aj Tryz.func172 rfl Tryz.ntmps172 Tryz.results172 ?_
 rw[←hk,←cZ,hd]
 refine gg (k:= ?_)
 (refine ax (k:= ?_))
 conv=>whnf
 refine bh (fun y:Nat×J=>y.1≤m.length∧y.2.k=k∧y.2.pt=pt∧y.2.dd=false∧y.2.l.length=s.l.length∧dw (m.drop y.1) (A+y.1) y.2.l y.2.ar y.2.wr=PR∧aG y.2.ar∧0≤y.2.wr∧y.2.wr≤s.wr+y.1) (fun y=>m.length - y.1) 2 [6,7,37,38,39,40,41,42,43,44,45,46,47,48,49,50,51,52,53,54,55,56,57,58,59,60,61,62,63,64,65,66,67,68,69,70,71,72,73,74] (fun y=>[(6,.val (.int .i64 0)),(7,.val (.int .i64 (y.1:Int)))])
  (fun y=>[(0,⟨v0,.obj [.own 1 v1 1 0 s.l.length,.val (.int .i64 (x:Int)),.val (.int .i64 (k:Int)),.val (.int .i64 y.2.ar),.val (.int .i64 pt),.val (.bool false),.val (.int .i64 y.2.wr)]⟩),(1,⟨v1,.bytes y.2.l⟩)]) (0,s) ⟨Nat.zero_le _,hk.symm,cZ.symm,hd,rfl,by rw[List.drop_zero,Nat.add_zero];exact MB,ha,hw.1,by show s.wr≤s.wr+((0:Nat):Int);omega⟩ ?_ ?_ ?_
 ·exact no_implicit_lambda%ten
 ·exact no_implicit_lambda%az
 ·rintro⟨i,t⟩ u ⟨i1,i2,i3,i4,i5,i6,i7,i8,i9⟩
  simp only at i1 i2 i3 i4 i5 i6 i7 i8 i9
  obtain⟨tl,tk,kb,rq,Qg,oa⟩:=t
  simp only at i2 i3 i4 i5 i6 i7 i8 i9
  subst i2 i3 i4
  refine bc (k:= ?_)
  refine gg (k:= ?_)
  refine⟨fun h=> ?_,fun h=> ?_⟩
  ·have ai:i<m.length:=by have:=of_decide_eq_true h;omega
   have zo:m.drop i=m[i]::m.drop (i+1):=(List.drop_eq_getElem_cons ai)
   rw[zo,dw] at i6
   have gR:=Fl ⟨tl,tk,kb,rq,false,oa⟩ i7 x v0 v1
   simp only[i5] at gR
   by_cases hc:0<kb∧kb - 1=0
   ·rw[if_pos hc] at i6
    subst i6
    rw[show J.pow ⟨tl,tk,kb,rq,false,oa⟩=⟨tl,tk,kb - 1,rq,true,oa⟩ by unfold J.pow;simp only;rw[if_pos hc.1,if_pos hc.2]] at gR
    simp only[i5] at gR
    refine gg (k:= ?_)
    refine ae (gR) Tryz.call208 2 [0,1] [0,0] [] ?_
    refine gg (k:= ?_)
    exact⟨_,rfl,rfl,trivial⟩
   ·rw[if_neg hc] at i6
    rw[show J.pow ⟨tl,tk,kb,rq,false,oa⟩=⟨tl,tk,if 0<kb then kb - 1 else kb,rq,false,oa⟩ by
     unfold J.pow
     simp only
     by_cases h0:0<kb
     ·rw[if_pos h0,if_pos h0,if_neg fun q=>hc ⟨h0,q⟩]
     ·rw[if_neg h0,if_neg h0]] at gR
    simp only[i5] at gR
    refine gg (k:= ?_)
    refine ae (gR) Tryz.call208 2 [0,1] [0,0] [] ?_
    refine gg (k:= ?_)
    (refine ax (k:= ?_))
    refine bz (p:=2) aj hm [0,1,3,7,0,0,48,0,128,384,896,0,0,6144,16256,32640,0,0,196608,458752,1048448,2097151,4194303] [⟨0,false,false,[]⟩,⟨1,true,false,[48,49,50,51,52,53,54,55,56,57,58,59,60,61,62,63,64,65,66,67]⟩,⟨2,true,false,[49,50,51,52,53,54,55,56,57,58,59,60,61,62,63,64,65,66,67]⟩,⟨3,true,false,[50,51,52,53,54,55,56,57,58,59,60,61,62,63,64,65,66,67]⟩,⟨4,false,false,[]⟩,⟨5,false,false,[]⟩,⟨6,false,false,[]⟩,⟨7,false,false,[]⟩,⟨8,true,false,[46,47,48,49,50,51,52,55,56,57,58,59,60,61,62,63,64,65,66,67]⟩,⟨9,true,false,[46,47,48,49,50,51,52,56,57,58,59,60,61,62,63,64,65,66,67]⟩,⟨10,true,false,[46,47,48,49,50,51,52,57,58,59,60,61,62,63,64,65,66,67]⟩,⟨11,false,false,[]⟩,⟨12,false,false,[]⟩,⟨13,false,false,[]⟩,⟨14,true,false,[46,47,48,49,50,51,52,61,62,63,64,65,66,67]⟩,⟨15,true,false,[46,47,48,49,50,51,52,62,63,64,65,66,67]⟩,⟨16,false,false,[]⟩,⟨17,false,false,[]⟩,⟨18,true,false,[46,47,48,49,50,51,52,53,54,55,56,57,58,59,60,61,65,66,67]⟩,⟨19,true,false,[46,47,48,49,50,51,52,53,54,55,56,57,58,59,60,61,66,67]⟩,⟨20,false,false,[]⟩,⟨21,true,false,[]⟩,⟨22,true,true,[]⟩] (by kernel_rfl) ?_
    refine gg (k:= ?_)
    refine aM (i+1,⟨tl.set (A+i) (tl.getD (A+i) 0&&&m[i]),tk,if 0<kb then kb - 1 else kb,rq,false,oa+1⟩) ⟨ai,rfl,rfl,rfl,by show(tl.set _ _).length=_;rw[List.length_set];exact i5,i6,by simp only[aG] at*;split<;>omega,by show 0≤oa+1;omega,by show oa+1≤s.wr+((i+1:Nat):Int);omega⟩ (by show m.length - (i+1)<m.length - i;omega) ?_ ?_
    ·exact no_implicit_lambda%ten
    ·dsimp only[dt,jA,jB,aH,Nat.reduceAdd,Nat.zero_add]
     rw[show((A:Int)+(i:Int)).toNat=A+i by omega,Int.toNat_natCast i,Nat.zero_add (A+i),MA,show m.getD i 0=m[i] by rw[List.getD_eq_getElem?_getD,List.getElem?_eq_getElem ai];rfl]
     exact no_implicit_lambda%az
  ·have hi:i=m.length:=by have:=of_decide_eq_false h;omega
   subst hi
   rw[List.drop_length,dw] at i6
   subst i6
   refine gg (k:= ?_)
   exact⟨_,rfl,rfl,trivial⟩
end Go.Proofs.YtpbpiehcchannaaGreatDoor
namespace Go.Proofs.YtpbpiehcchannaaGreatDoor
open Go.RowKit
set_option linter.unusedVariables false
set_option linter.unusedSimpArgs false
set_option maxRecDepth 100000
set_option maxHeartbeats 1500000
theorem MC{s:J}(hd:s.dd=false):s.pow=⟨s.l,s.k,if 0<s.ar then s.ar - 1 else s.ar,s.pt,s.goes,s.wr⟩:=by
 obtain⟨l,k,ar,pt,dd,wr⟩:=s
 simp only at hd
 subst hd
 unfold J.pow J.goes
 simp only
 by_cases h0:0<ar
 ·rw[if_pos h0,if_pos h0,if_pos h0]
  by_cases h1:ar - 1=0
  ·rw[if_pos h1,decide_eq_true h1]
  ·rw[if_neg h1,decide_eq_false h1]
 ·rw[if_neg h0,if_neg h0,if_neg h0]
theorem MD(s:J)(ha:aG s.ar)(hp:0≤s.pt∧aG s.pt)(hw:0≤s.wr∧s.wr≤1000000000000000000)(X:Nat)(hX:s.l.length=X*s.k)(hl:s.l.length≤4194304)(hk:0<s.k∧s.k≤65536)(a:Int)(pJ:aG a)(v0 v1:Nat):Spec Tryz.prog 171 [.ref 0 v0 7 0 0,.val (.int .i64 a)] [⟨v0,.obj [.own 1 v1 1 0 s.l.length,.val (.int .i64 (X:Int)),.val (.int .i64 (s.k:Int)),.val (.int .i64 s.ar),.val (.int .i64 s.pt),.val (.bool s.dd),.val (.int .i64 s.wr)]⟩,⟨v1,.bytes s.l⟩] (ak (.val (.int .i64 (s.erase a).1)) [⟨v0,.obj [.own 1 v1 1 0 (s.erase a).2.l.length,.val (.int .i64 (X:Int)),.val (.int .i64 ((s.erase a).2.k:Int)),.val (.int .i64 (s.erase a).2.ar),.val (.int .i64 (s.erase a).2.pt),.val (.bool (s.erase a).2.dd),.val (.int .i64 (s.erase a).2.wr)]⟩,⟨v1,.bytes (s.erase a).2.l⟩] []):=by
 simp only[aG] at pJ hp
 have hdiv:(s.l.length:Int)/(s.k:Int)=(X:Int):=by rw[hX,Int.natCast_mul,Int.mul_ediv_cancel _ (by omega)]
 rcases Bool.eq_false_or_eq_true s.dd with hd | hd
 ·rw[show s.erase a=(6,s) by unfold J.erase;rw[if_pos hd]]
  refine aq aj Tryz.func171 rfl Tryz.ntmps171 Tryz.results171 ?_
  rw[hd]
  refine gg (k:= ?_)
  rw[←hd]
  exact⟨_,rfl,rfl,trivial⟩
 by_cases bV:0≤a∧a< (X:Int)
 case neg=>
  rw[show s.erase a=(1,s) by unfold J.erase;rw[hd,if_neg (by simp),hdiv,if_neg bV]]
  refine aq aj Tryz.func171 rfl Tryz.ntmps171 Tryz.results171 ?_
  rw[hd]
  have hc:a<0∨(0≤a∧(X:Int)≤a):=by omega
  rcases hc with h | h
  ·refine gg (k:= ?_)
   rw[←hd]
   exact⟨_,rfl,rfl,trivial⟩
  ·refine gg (k:= ?_)
   rw[←hd]
   exact⟨_,rfl,rfl,trivial⟩
 obtain⟨h0,h1⟩:=bV
 obtain⟨A,rfl⟩:∃A:Nat,a=(A:Int):=⟨a.toNat,by omega⟩
 have ME:(A+1)*s.k≤X*s.k:=Nat.mul_le_mul_right _ (by omega)
 rw[Nat.add_mul,Nat.one_mul,←hX] at ME
 have Fq:s.erase (A:Int)=(if s.goes then 6 else 0,⟨fp s.l (A*s.k) (if s.goes then(min s.pt (s.k:Int)).toNat else s.k),s.k,if 0<s.ar then s.ar - 1 else s.ar,s.pt,s.goes,if s.goes then s.wr else s.wr+1⟩):=by
  unfold J.erase
  rw[hd,if_neg (by simp),hdiv,if_pos ⟨h0,h1⟩,Int.toNat_natCast]
  cases s.goes<;>rfl
 rw[Fq]
 clear Fq
 simp only[py]
 obtain⟨n,hN⟩:∃n,(if s.goes=true then(min s.pt (s.k:Int)).toNat else s.k)=n:=⟨_,rfl⟩
 rw[hN]
 have gR:=Fl s ha X v0 v1
 rw[MC hd] at gR
 simp only at gR
 have G2:(A:Int)*(s.k:Int)=((A*s.k:Nat):Int):=by simp
 refine aq aj Tryz.func171 rfl Tryz.ntmps171 Tryz.results171 ?_
 rw[hd] at gR⊢
 refine gg (k:= ?_)
 refine ae (gR) Tryz.call208 2 [0,1] [0,0] [] ?_
 cases qy:s.goes with
 | true=>
  rw[qy,if_pos rfl] at hN
  have ot:min (s.k:Int) s.pt=(n:Int):=by omega
  have gE:n≤s.k:=by omega
  refine gg (k:= ?_)
  rw[ot]
  simp only[Bool.false_eq_true,if_false]
  (
 (refine ax (k:= ?_))
 conv=>whnf
 refine bh (fun i:Nat=>i≤n) (fun i=>n - i) 2 [7,38,39,40,41,42,43,44,45,46,47,48,49,50,51,52,53,54,55] (fun i=>[(7,.val (.int .i64 (i:Int)))]) (fun i=>[(1,⟨v1,.bytes (fp s.l (A*s.k) i)⟩)]) 0 (Nat.zero_le _) ?_ ?_ ?_
 ·exact no_implicit_lambda%ten
 ·exact no_implicit_lambda%az
 ·rintro i u i1
  have D1:=py s.l (A*s.k) i
  refine bc (k:= ?_)
  refine gg (k:= ?_)
  refine⟨fun h=> ?_,fun h=> ?_⟩
  ·have ai:i<n:=by have:=of_decide_eq_true h;omega
   refine gg (k:= ?_)
   (refine ax (k:= ?_))
   refine bz (p:=2) aj hm [0,1,3,7,0,0,32,96,224,496,0,2032,4095,8191] [⟨0,false,false,[]⟩,⟨1,true,false,[45,46,47,48,49,50,51,52,53,54,55]⟩,⟨2,true,false,[46,47,48,49,50,51,52,53,54,55]⟩,⟨3,true,false,[47,48,49,50,51,52,53,54,55]⟩,⟨4,false,false,[]⟩,⟨5,false,false,[]⟩,⟨6,true,false,[43,44,45,46,47,50,51,52,53,54,55]⟩,⟨7,true,false,[43,44,45,46,47,51,52,53,54,55]⟩,⟨8,true,false,[43,44,45,46,47,52,53,54,55]⟩,⟨9,false,false,[]⟩,⟨10,false,false,[]⟩,⟨11,false,false,[]⟩,⟨12,true,false,[]⟩,⟨13,true,true,[]⟩] (by kernel_rfl) ?_
   refine gg (k:= ?_)
   refine aM (i+1) ai (by show n - (i+1)<n - i;omega) ?_ ?_
   ·exact no_implicit_lambda%ten
   ·dsimp only[dt,jA,jB,aH,Nat.reduceAdd,Nat.zero_add]
    rw[show((A:Int)*(s.k:Int)+(i:Int)).toNat=A*s.k+i by omega,Nat.zero_add (A*s.k+i)]
    exact no_implicit_lambda%az
  ·obtain rfl:i=n:=by have:=of_decide_eq_false h;omega
   refine gg (k:= ?_)
   exact⟨_,rfl,rfl,trivial⟩)
 | false=>
  rw[qy,if_neg (by simp)] at hN
  have gE:n≤s.k:=by omega
  refine gg (k:= ?_)
  (
 (refine ax (k:= ?_))
 conv=>whnf
 refine bh (fun i:Nat=>i≤n) (fun i=>n - i) 2 [7,38,39,40,41,42,43,44,45,46,47,48,49,50,51,52,53,54,55] (fun i=>[(7,.val (.int .i64 (i:Int)))]) (fun i=>[(1,⟨v1,.bytes (fp s.l (A*s.k) i)⟩)]) 0 (Nat.zero_le _) ?_ ?_ ?_
 ·exact no_implicit_lambda%ten
 ·exact no_implicit_lambda%az
 ·rintro i u i1
  have D1:=py s.l (A*s.k) i
  refine bc (k:= ?_)
  refine gg (k:= ?_)
  refine⟨fun h=> ?_,fun h=> ?_⟩
  ·have ai:i<n:=by have:=of_decide_eq_true h;omega
   refine gg (k:= ?_)
   (refine ax (k:= ?_))
   refine bz (p:=2) aj hm [0,1,3,7,0,0,32,96,224,496,0,2032,4095,8191] [⟨0,false,false,[]⟩,⟨1,true,false,[45,46,47,48,49,50,51,52,53,54,55]⟩,⟨2,true,false,[46,47,48,49,50,51,52,53,54,55]⟩,⟨3,true,false,[47,48,49,50,51,52,53,54,55]⟩,⟨4,false,false,[]⟩,⟨5,false,false,[]⟩,⟨6,true,false,[43,44,45,46,47,50,51,52,53,54,55]⟩,⟨7,true,false,[43,44,45,46,47,51,52,53,54,55]⟩,⟨8,true,false,[43,44,45,46,47,52,53,54,55]⟩,⟨9,false,false,[]⟩,⟨10,false,false,[]⟩,⟨11,false,false,[]⟩,⟨12,true,false,[]⟩,⟨13,true,true,[]⟩] (by kernel_rfl) ?_
   refine gg (k:= ?_)
   refine aM (i+1) ai (by show n - (i+1)<n - i;omega) ?_ ?_
   ·exact no_implicit_lambda%ten
   ·dsimp only[dt,jA,jB,aH,Nat.reduceAdd,Nat.zero_add]
    rw[show((A:Int)*(s.k:Int)+(i:Int)).toNat=A*s.k+i by omega,Nat.zero_add (A*s.k+i)]
    exact no_implicit_lambda%az
  ·obtain rfl:i=n:=by have:=of_decide_eq_false h;omega
   refine gg (k:= ?_)
   exact⟨_,rfl,rfl,trivial⟩)
end Go.Proofs.YtpbpiehcchannaaGreatDoor
namespace Go.Proofs.YtpbpiehcchannaaGreatDoor
open Go.RowKit
set_option linter.unusedVariables false
set_option linter.unusedSimpArgs false
set_option maxRecDepth 100000
set_option maxHeartbeats 1500000
theorem Ac(s:J)(hl:s.l.length≤4194304)(X:Nat)(a n:Int)(pJ:aG a)(hn:aG n)(v0 v1:Nat):Spec Tryz.prog 206 [.ref 0 v0 7 0 0,.val (.int .i64 a),.val (.int .i64 n)] [⟨v0,.obj [.own 1 v1 1 0 s.l.length,.val (.int .i64 (X:Int)),.val (.int .i64 (s.k:Int)),.val (.int .i64 s.ar),.val (.int .i64 s.pt),.val (.bool s.dd),.val (.int .i64 s.wr)]⟩,⟨v1,.bytes s.l⟩] (ak (.al [.bs 0 (s.read a n).2,.val (.int .i64 (s.read a n).1)]) [⟨v0,.obj [.own 1 v1 1 0 s.l.length,.val (.int .i64 (X:Int)),.val (.int .i64 (s.k:Int)),.val (.int .i64 s.ar),.val (.int .i64 s.pt),.val (.bool s.dd),.val (.int .i64 s.wr)]⟩,⟨v1,.bytes s.l⟩] []):=by
 simp only[aG] at pJ hn
 rcases Bool.eq_false_or_eq_true s.dd with hd | hd
 ·rw[show s.read a n=(6,[]) by unfold J.read;rw[if_pos hd]]
  have h:Spec Tryz.prog 206 [.ref 0 v0 7 0 0,.val (.int .i64 a),.val (.int .i64 n)] [⟨v0,.obj [.own 1 v1 1 0 s.l.length,.val (.int .i64 (X:Int)),.val (.int .i64 (s.k:Int)),.val (.int .i64 s.ar),.val (.int .i64 s.pt),.val (.bool s.dd),.val (.int .i64 s.wr)]⟩,⟨v1,.bytes s.l⟩] (ak (.al [.val (.slice none 0 0),.val (.int .i64 6)]) [⟨v0,.obj [.own 1 v1 1 0 s.l.length,.val (.int .i64 (X:Int)),.val (.int .i64 (s.k:Int)),.val (.int .i64 s.ar),.val (.int .i64 s.pt),.val (.bool s.dd),.val (.int .i64 s.wr)]⟩,⟨v1,.bytes s.l⟩] []):=by
   refine aq aj Tryz.func206 rfl Tryz.ntmps206 Tryz.results206 ?_
   rw[hd]
   refine gg (k:= ?_)
   rw[←hd]
   exact⟨_,rfl,rfl,trivial⟩
  exact br h trivial (AF.al (af.cons AF.nil (af.cons AF.same af.nil))) ⟨rfl,BF.same,rfl,BF.same,trivial⟩
 by_cases bV:0≤a∧0≤n∧a+n≤s.l.length
 case neg=>
  rw[show s.read a n=(1,[]) by unfold J.read;rw[hd,if_neg (by simp),if_neg bV]]
  have h:Spec Tryz.prog 206 [.ref 0 v0 7 0 0,.val (.int .i64 a),.val (.int .i64 n)] [⟨v0,.obj [.own 1 v1 1 0 s.l.length,.val (.int .i64 (X:Int)),.val (.int .i64 (s.k:Int)),.val (.int .i64 s.ar),.val (.int .i64 s.pt),.val (.bool s.dd),.val (.int .i64 s.wr)]⟩,⟨v1,.bytes s.l⟩] (ak (.al [.val (.slice none 0 0),.val (.int .i64 1)]) [⟨v0,.obj [.own 1 v1 1 0 s.l.length,.val (.int .i64 (X:Int)),.val (.int .i64 (s.k:Int)),.val (.int .i64 s.ar),.val (.int .i64 s.pt),.val (.bool s.dd),.val (.int .i64 s.wr)]⟩,⟨v1,.bytes s.l⟩] []):=by
   refine aq aj Tryz.func206 rfl Tryz.ntmps206 Tryz.results206 ?_
   rw[hd]
   have hc:a<0∨(0≤a∧n<0)∨(0≤a∧0≤n∧(s.l.length:Int)<a)∨(0≤a∧0≤n∧a≤s.l.length∧(s.l.length:Int) - a<n):=by omega
   rcases hc with h | h | h | h
   ·refine gg (k:= ?_)
    rw[decide_eq_true h]
    simp only[Bool.true_or]
    refine gg (k:= ?_)
    refine⟨fun _=> ?_,fun h=>absurd h (by simp)⟩
    refine gg (k:= ?_)
    rw[←hd]
    exact⟨_,rfl,rfl,trivial⟩
   ·refine gg (k:= ?_)
    rw[←hd]
    exact⟨_,rfl,rfl,trivial⟩
   ·refine gg (k:= ?_)
    rw[←hd]
    exact⟨_,rfl,rfl,trivial⟩
   ·refine gg (k:= ?_)
    rw[←hd]
    exact⟨_,rfl,rfl,trivial⟩
  exact br h trivial (AF.al (af.cons AF.nil (af.cons AF.same af.nil))) ⟨rfl,BF.same,rfl,BF.same,trivial⟩
 rw[show s.read a n=(0,(s.l.drop a.toNat).take n.toNat) by unfold J.read;rw[hd,if_neg (by simp),if_pos bV]]
 obtain⟨h0,h1,h2⟩:=bV
 obtain⟨A,rfl⟩:∃A:Nat,a=(A:Int):=⟨a.toNat,by omega⟩
 obtain⟨B,rfl⟩:∃B:Nat,n=(B:Int):=⟨n.toNat,by omega⟩
 rw[Int.toNat_natCast,Int.toNat_natCast]
 have h:Spec Tryz.prog 206 [.ref 0 v0 7 0 0,.val (.int .i64 (A:Int)),.val (.int .i64 (B:Int))] [⟨v0,.obj [.own 1 v1 1 0 s.l.length,.val (.int .i64 (X:Int)),.val (.int .i64 (s.k:Int)),.val (.int .i64 s.ar),.val (.int .i64 s.pt),.val (.bool s.dd),.val (.int .i64 s.wr)]⟩,⟨v1,.bytes s.l⟩] (ak (.al [.own 42 2 1 0 B,.val (.int .i64 0)]) [⟨v0,.obj [.own 1 v1 1 0 s.l.length,.val (.int .i64 (X:Int)),.val (.int .i64 (s.k:Int)),.val (.int .i64 s.ar),.val (.int .i64 s.pt),.val (.bool s.dd),.val (.int .i64 s.wr)]⟩,⟨v1,.bytes s.l⟩] [(42,⟨2,.bytes ((s.l.drop A).take B)⟩)]):=by
  refine aq aj Tryz.func206 rfl Tryz.ntmps206 Tryz.results206 ?_
  rw[hd]
  refine gg (k:= ?_)
  conv=>whnf
  refine⟨(s.l.drop A).take B,?_⟩
  conv=>whnf
  have hlen:((s.l.drop A).take B).length=B:=by rw[List.length_take,List.length_drop];omega
  refine And.intro ⟨rfl,⟨rfl,rfl,by omega⟩,rfl,rfl,rfl,rfl,rfl,?_,?_,by decide⟩ ?_
  ·rw[show((A:Int)+(B:Int)).toNat - (A:Int).toNat=B by omega,Nat.zero_add,Int.toNat_natCast]
  ·rw[hlen]
   show(0+B)*1≤_
   omega
  refine gg (k:= ?_)
  rw[←hd]
  refine⟨_,?_,rfl,rfl,trivial⟩
  simp only[jw,List.map_nil,List.length_nil,Nat.zero_add,hlen]
 exact br h (by simp[ef]) (AF.al (af.cons (AF.own rfl (by rw[List.length_take,List.length_drop];omega)) (af.cons AF.same af.nil))) ⟨rfl,BF.same,rfl,BF.same,trivial⟩
end Go.Proofs.YtpbpiehcchannaaGreatDoor
namespace Go.Proofs.YtpbpiehcchannaaGreatDoor
open Go.RowKit
set_option linter.unusedVariables false
set_option linter.unusedSimpArgs false
set_option maxRecDepth 100000
set_option maxHeartbeats 1500000
theorem MF(x y:Int)(hx:aG x)(hy:aG y)(h:¬(1≤x∧x≤64∧16≤y∧y≤65536)):Spec Tryz.prog 33 [.val (.int .i64 x),.val (.int .i64 y)] [] (ak (.al [.val (.pointer none),.val (.int .i64 1)]) [] []):=by
 refine aq aj Tryz.func33 rfl Tryz.ntmps33 Tryz.results33 ?_
 refine gg (k:= ?_)
 exact⟨_,rfl,rfl,trivial⟩
theorem MG(x y:Nat)(h1:1≤x∧x≤64)(h2:16≤y∧y≤65536):Spec Tryz.prog 33 [.val (.int .i64 (x:Int)),.val (.int .i64 (y:Int))] [] (ak (.al [.ref 25 1 7 0 0,.val (.int .i64 0)]) [] [(25,⟨1,.obj [.own 39 (x*y+1) 1 0 (x*y),.val (.int .i64 (x:Int)),.val (.int .i64 (y:Int)),.val (.int .i64 0),.val (.int .i64 0),.val (.bool false),.val (.int .i64 0)]⟩),(39,⟨x*y+1,.bytes (List.replicate (x*y) 255)⟩)]):=by
 have vp:x*y≤64*65536:=Nat.mul_le_mul h1.2 h2.2
 have hm:(x:Int)*(y:Int)=((x*y:Nat):Int):=by simp
 refine aq aj Tryz.func33 rfl Tryz.ntmps33 Tryz.results33 ?_
 refine gg (k:= ?_)
 (refine ax (k:= ?_))
 conv=>whnf
 refine lW (oQ (ia 39 1 (.bytes []) rfl (by decide) rfl (sX 39 1 _)) (y6 (b:=25) (r:=39) (v':=1) (cells:=[.val (.slice none 0 0),.val (.int .i64 (x:Int)),.val (.int .i64 (y:Int)),.val (.int .i64 0),.val (.int .i64 0),.val (.bool false),.val (.int .i64 0)]) (cells':=[.own 39 1 1 0 0,.val (.int .i64 (x:Int)),.val (.int .i64 (y:Int)),.val (.int .i64 0),.val (.int .i64 0),.val (.bool false),.val (.int .i64 0)]) (er:=⟨1,.bytes []⟩) rfl rfl rfl ⟨.inr (.inr ⟨1,rfl,rfl⟩),.inr (.inl rfl),.inr (.inl rfl),.inr (.inl rfl),.inr (.inl rfl),.inr (.inl rfl),.inr (.inl rfl),trivial⟩)) ?_
 dsimp only[aH]
 refine bh (fun i:Nat=>i≤x*y) (fun i=>x*y - i) 0 [7,26,27,28,29,30,31,32,33,34,35,36,37,38,39,40,41] (fun i=>[(7,.val (.int .i64 (i:Int)))])
  (fun i=>[(25,⟨1,.obj [.own 39 (i+1) 1 0 i,.val (.int .i64 (x:Int)),.val (.int .i64 (y:Int)),.val (.int .i64 0),.val (.int .i64 0),.val (.bool false),.val (.int .i64 0)]⟩),(39,⟨i+1,.bytes (List.replicate i 255)⟩)]) 0 (Nat.zero_le _) ?_ ?_ ?_
 ·exact no_implicit_lambda%ten
 ·exact no_implicit_lambda%az
 ·rintro i u i1
  have cY:(List.replicate i (255:UInt8)).length=i:=List.length_replicate ..
  refine bc (k:= ?_)
  refine gg (k:= ?_)
  rw[hm]
  refine⟨fun h=> ?_,fun h=> ?_⟩
  ·have ai:i<x*y:=by have:=of_decide_eq_true h;omega
   refine gg (k:= ?_)
   conv=>whnf
   refine⟨[255],?_⟩
   conv=>whnf
   refine And.intro ⟨rfl,⟨rfl,rfl,by decide⟩,rfl,rfl,rfl,cY.symm,rfl,rfl,(by rw[cY];show(i+1)*1≤_;omega),by decide⟩ ?_
   rw[cY,show List.replicate i (255:UInt8)++[255]=List.replicate (i+1) 255 from List.replicate_succ'.symm]
   refine gg (k:= ?_)
   refine aM (i+1) ai (by show x*y - (i+1)<x*y - i;omega) ?_ ?_
   ·exact no_implicit_lambda%ten
   ·exact no_implicit_lambda%az
  ·obtain rfl:i=x*y:=by have:=of_decide_eq_false h;omega
   refine gg (k:= ?_)
   exact⟨_,rfl,rfl,rfl,rfl,trivial⟩
end Go.Proofs.YtpbpiehcchannaaGreatDoor
