/- Walks of keep: no book; lintellaw21: vast, SameVar, begun, works. Walks of lintellaw21: vast, SameVar, begun. Walks of lintellaw21: begun, works. Conditions: the premises of each law. -/
import Derived.Test.YtpbpiehcchannaaGreatDoorJKi
namespace Go.Proofs.YtpbpiehcchannaaGreatDoor
set_option linter.unusedVariables false
set_option linter.unusedSimpArgs false
set_option maxRecDepth 100000
set_option maxHeartbeats 1500000
open Go.RowKit
structure du where
 K:Int
 v:aU
 x:Int
def bY(o:du):List AV:= .val (.int .i64 o.K)::(aV (.bs 0 o.v.d) o.v++[.val (.int .u8 o.x)])
def nH:du:=⟨0,aK,0⟩
structure du.Ok(o:du):Prop where
 K:aX o.K
 v:o.v.Ok
 x:0≤o.x∧o.x≤255
def fB:List du→Int
 | []=>0
 | o::l=>(min (o.v.d.length:Int) 131072+min (o.v.nm.size:Int) 131072)+fB l
theorem Ja(o:du):∀l,fB (l++[o])=fB l+(min (o.v.d.length:Int) 131072+min (o.v.nm.size:Int) 131072)
 | []=>by simp[fB]
 | x::l=>by simp only[List.cons_append,fB,Ja o l];omega
theorem yK:∀l,0≤fB l
 | []=>by simp[fB]
 | x::l=>by have:=yK l;simp only[fB];omega
theorem QO{l:List du}{i:Nat}(h:i<l.length):fB (l.take (i+1))=fB (l.take i)+(min ((l.getD i nH).v.d.length:Int) 131072+min ((l.getD i nH).v.nm.size:Int) 131072):=by
 rw[List.take_succ_eq_append_getElem h,Ja,List.getD_eq_getElem?_getD,List.getElem?_eq_getElem h];rfl
theorem QP(a b:List du):fB (a++b)=fB a+fB b:=by
 induction a with
 | nil=>simp[fB]
 | cons x a ih=>simp only[List.cons_append,fB,ih];omega
theorem QQ(l:List du)(i:Nat):fB (l.take i)≤fB l:=by
 have h:=QP (l.take i) (l.drop i)
 rw[List.take_append_drop] at h
 have:=yK (l.drop i)
 omega
def wj(l:List du):Bool:=decide (60<l.length)||decide (131072<fB l)
theorem QR(z:Nat)(l:List du):Spec Tryz.prog 46 [.sl z 59 bY nH l] [] (ak (.val (.bool (wj l))) [] []):=by
 refine ax ai Tryz.func46 rfl Tryz.ntmps46 Tryz.results46 ?_
 refine gg ?_
 refine⟨fun h=> ?_,fun h=> ?_⟩
 ·refine gg ?_
  have hb:=of_decide_eq_true h
  rw[wj,decide_eq_true (by omega:60<l.length)]
  exact⟨_,rfl,rfl,trivial⟩
 have hb:=of_decide_eq_false h
 rw[wj,decide_eq_false (by omega:¬60<l.length),Bool.false_or]
 refine gg ?_
 (refine aH ?_)
 conv=>whnf
 refine cE (fun i:Nat=>i≤l.length∧fB (l.take i)≤131072) (fun i=>l.length - i) 0 [2,3,4,8,9,10,11,12,13,14,15,16,17,18,19,20,21,22,23,24,25,26,27,28,29,30,31,32,33,34] (fun i=>[(3,.val (.int .i64 (fB (l.take i)))),(4,.val (.int .i64 i)),(2,.val (.bool false))]) (fun i=>[]) 0 ⟨Nat.zero_le _,by simp[fB]⟩ ?_ ?_ ?_
 ·exact no_implicit_lambda%ten
 ·exact no_implicit_lambda%b6
 ·rintro i v ⟨i1,i2⟩
  have i0:=yK (l.take i)
  refine cF ?_
  refine gg ?_
  refine⟨fun h=> ?_,fun h=> ?_⟩
  ·have ah:i<l.length:=by have:=of_decide_eq_true h;omega
   have hs:=QO ah
   have zR:=yK (l.take (i+1))
   refine gg ?_
   (refine aH ?_)
   refine bL (p:=0) ai hm [0,0,0,6,14,30,62,126,254,511,0,0,3072,7168,15360,31744,64512,130048,262143,524287] [⟨0,false,false,[]⟩,⟨1,false,false,[]⟩,⟨2,false,false,[]⟩,⟨3,true,false,[14,18,19,20,21,22,23,24,25,26,27,28,29,30,31,32,3]⟩,⟨4,true,false,[14,19,20,21,22,23,24,25,26,27,28,29,30,31,32,3]⟩,⟨5,true,false,[14,20,21,22,23,24,25,26,27,28,29,30,31,32,3]⟩,⟨6,true,false,[14,21,22,23,24,25,26,27,28,29,30,31,32,3]⟩,⟨7,true,false,[14,22,23,24,25,26,27,28,29,30,31,32,3]⟩,⟨8,false,false,[]⟩,⟨9,false,false,[]⟩,⟨10,false,false,[]⟩,⟨11,false,false,[]⟩,⟨12,true,false,[14,15,16,17,18,19,20,21,22,23,27,28,29,30,31,32,3]⟩,⟨13,true,false,[14,15,16,17,18,19,20,21,22,23,28,29,30,31,32,3]⟩,⟨14,true,false,[14,15,16,17,18,19,20,21,22,23,29,30,31,32,3]⟩,⟨15,true,false,[14,15,16,17,18,19,20,21,22,23,30,31,32,3]⟩,⟨16,true,false,[14,15,16,17,18,19,20,21,22,23,31,32,3]⟩,⟨17,false,false,[]⟩,⟨18,false,false,[]⟩,⟨19,false,false,[]⟩] (by kernel_rfl) ?_
   refine gg ?_
   simp only[Bool.false_eq_true,if_false,Int.toNat_natCast]
   refine gg ?_
   simp only[Bool.false_eq_true,if_false,Int.toNat_natCast]
   refine gg ?_
   have hle:=QQ l (i+1)
   have QS:fB (l.take i)+min ((l.getD i nH).v.d.length:Int) 131072+min ((l.getD i nH).v.nm.size:Int) 131072=fB (l.take (i+1)):=by rw[hs];omega
   rw[QS]
   refine⟨fun h=> ?_,fun h=> ?_⟩
   ·have hb:=of_decide_eq_true h
    refine gg ?_
    rw[decide_eq_true (by omega:131072<fB l)]
    exact⟨_,rfl,rfl,trivial⟩
   ·have hb:=of_decide_eq_false h
    refine gg ?_
    exact bk (i+1) ⟨ah,by omega⟩ (by show l.length - (i+1)<l.length - i;omega)
  ·refine gg ?_
   have hi:i=l.length:=by have:=of_decide_eq_false h;omega
   subst hi
   rw[List.take_length] at i2
   rw[decide_eq_false (by omega:¬131072<fB l)]
   exact⟨_,rfl,rfl,trivial⟩
def yL(a b:aU):Bool:=decide (a.nm.data.toList=b.nm.data.toList)&&eK ((List.range 16).map fun i=>bv (a.g.getD i 0)) ((List.range 16).map fun i=>bv (b.g.getD i 0))&&decide (a.at_=b.at_)&&
 eK [Value.int .u16 a.t.y,.int .u8 a.t.m,.int .u8 a.t.d,.int .u8 a.t.h,.int .u8 a.t.mi,.int .u8 a.t.s] [Value.int .u16 b.t.y,.int .u8 b.t.m,.int .u8 b.t.d,.int .u8 b.t.h,.int .u8 b.t.mi,.int .u8 b.t.s]&&
 eK ((List.range 32).map fun i=>bv (a.ow.getD i 0)) ((List.range 32).map fun i=>bv (b.ow.getD i 0))&&decide ((strOf a.d).data.toList=(strOf b.d).data.toList)
theorem yM:∀(l m:List UInt8),eK (l.map bv) (m.map bv)=decide (l=m)
 | [],[]=>rfl
 | [],_::_=>rfl
 | _::_,[]=>rfl
 | x::l,y::m=>by
  simp only[List.map_cons,eK,yM l m,bv,lW]
  rw[Bool.eq_iff_iff]
  simp only[Bool.and_eq_true,decide_eq_true_eq,List.cons.injEq]
  exact⟨fun h=>⟨UInt8.toNat_inj.1 (by exact_mod_cast h.1),h.2⟩,fun h=>⟨by rw[h.1],h.2⟩⟩
theorem rn(l:List UInt8)(n:Nat)(h:l.length=n):((List.range n).map fun i=>bv (l.getD i 0))=l.map bv:=by
 apply List.ext_getElem
 ·simp[h]
 ·intro i h1 h2
  simp only[List.length_map,List.length_range] at h1
  simp[List.getD_eq_getElem?_getD,h1,h]
theorem Dw{a b:aU}(ha:a.Ok)(hb:b.Ok):yL a b=true↔a=b:=by
 unfold yL
 rw[rn a.g 16 ha.g,rn b.g 16 hb.g,rn a.ow 32 ha.ow,rn b.ow 32 hb.ow,yM,yM]
 obtain⟨an,ag,aa,⟨ty,tm,td,th,ti,ts⟩,ao,ad⟩:=a
 obtain⟨bn,bg,ba,⟨uy,um,ud,uh,ui,us⟩,bo,bd⟩:=b
 simp only[eK,lW,Bool.and_eq_true,decide_eq_true_eq,Bool.and_true,qV,List.toList_toArray,aU.mk.injEq,Tm.mk.injEq]
 constructor
 ·rintro⟨⟨⟨⟨⟨h1,h2⟩,h3⟩,h4⟩,h5⟩,h6⟩
  have e1:an=bn:=by rw[←lQ an,h1,lQ]
  exact⟨e1,h2,h3,h4,h5,of_decide_eq_true h6⟩
 ·rintro⟨rfl,rfl,rfl,h4,rfl,rfl⟩
  exact⟨⟨⟨⟨⟨rfl,rfl⟩,rfl⟩,h4⟩,rfl⟩,by simp⟩
theorem Jb(a b:aU)(ha:a.Ok)(hb:b.Ok)(za zb:Nat):Spec Tryz.prog 49 [.agg (aV (.bs za a.d) a),.agg (aV (.bs zb b.d) b)] [] (ak (.val (.bool (yL a b))) [] []):=by
 refine ax ai Tryz.func49 rfl Tryz.ntmps49 Tryz.results49 ?_
 unfold aV
 obtain⟨⟨a1,a2⟩,⟨b1,b2⟩,⟨c1,c2⟩,⟨d1,d2⟩,⟨e1,e2⟩,f1,f2⟩:=id ha.t
 obtain⟨⟨A1,A2⟩,⟨B1,B2⟩,⟨C1,C2⟩,⟨D1,D2⟩,⟨E1,E2⟩,F1,F2⟩:=id hb.t
 refine aE ?_
 exact⟨_,rfl,rfl,trivial⟩
def dZ(z:Int):Nat:=(128+z%2048).toNat
theorem Jc(z:Int):((dZ z:Nat):Int)=128+z%2048:=by unfold dZ;omega
theorem Jd(z:Int):128≤dZ z∧dZ z≤2175:=by have:=Jc z;omega
theorem Je (z : Int) (hz : 0 ≤ z ∧ z ≤ 65535) (s1 : U) (h1 : (U.new 2 (dZ z)).aW 1 = (0, s1)) : Spec Tryz.prog 50 [.val (.int .u16 z)] []
   (ak (.aD [.ref 20 2 6 0 0,.ref 21 2 1 0 0]) [] [(20,⟨2,.obj [.own 22 3 1 0 s1.l.length,.val (.int .i64 (s1.k:Int)),.val (.int .i64 s1.ar),.val (.int .i64 s1.pt),.val (.bool s1.dd),.val (.int .i64 s1.wr)]⟩),(22,⟨3,.bytes s1.l⟩),(21,⟨2,.obj [.ref 23 3 3 0 0]⟩),(23,⟨3,.obj [.ref 20 2 6 0 0,.ref 24 4 3 0 0,.ref 25 4 3 0 0]⟩),(24,⟨4,.obj [.ref 20 2 6 0 0,.val (.int .i64 ((0:Nat):Int)),.val (.int .i64 ((1:Nat):Int))]⟩),(25,⟨4,.obj [.ref 20 2 6 0 0,.val (.int .i64 ((1:Nat):Int)),.val (.int .i64 ((1:Nat):Int))]⟩)]):=by
 obtain⟨y1,y2⟩:=Jd z
 have hy:=Jc z
 obtain⟨y,QT⟩:∃y,y=dZ z:=⟨_,rfl⟩
 rw[←QT] at y1 y2 hy h1
 have la:aA (2*y) y 0 1:=⟨by omega,by omega,by omega,by omega⟩
 have lb:aA (2*y) y 1 1:=⟨by omega,by omega,by omega,by omega⟩
 have g0:aw 0 (2*y) y (U.new 2 y):=aw.new 2 y (by decide) (by omega)
 have hN:=Ov 2 y (by decide) (by omega)
 have cU:=yJ (U.new 2 y) 1 g0 (by decide) la lb (by omega) rfl (by rw[h1]) 2 3
 rw[h1] at cU
 generalize U.new 2 y=S at hN cU
 refine ax ai Tryz.func50 rfl Tryz.ntmps50 Tryz.results50 ?_
 refine gg ?_
 rw[←hy]
 refine af (hN) Tryz.call26 0 [0,0,0,0,0,0,0,0,0,0,0,0,0,0,0,0,0,0,0,0,0,0,0,0,22,0,0,20] [0,0,0,0,0,0,0,0,0,0,0,0,0,0,0,0,0,0,0,0,0,0,0,0,1,0,0,1] [27,24] ?_
 refine gg ?_
 refine af (cU) Tryz.call58 2 [20,22,0,0,0,0,0,0,0,0,23,24,25,0,0,0,0,0,21] [0,0,0,0,0,0,0,0,0,0,1,1,1,0,0,0,0,0,1] [18,10,11,12] ?_
 refine gg ?_
 exact⟨_,rfl,rfl,rfl,rfl,rfl,rfl,rfl,rfl,trivial⟩
end Go.Proofs.YtpbpiehcchannaaGreatDoor
