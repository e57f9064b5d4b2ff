/- Walks of keep: no book; lintellaw21: vast, SameVar, begun, works. Walks of lintellaw21: vast, SameVar, begun. Walks of lintellaw21: begun, works. Conditions: the premises of each law. -/
import Derived.Test.YtpbpiehcchannaaGreatDoorJKi
namespace Go.Proofs.YtpbpiehcchannaaGreatDoor
open Go.RowKit
set_option linter.unusedVariables false
set_option linter.unusedSimpArgs false
set_option maxRecDepth 100000
set_option maxHeartbeats 1500000
end Go.Proofs.YtpbpiehcchannaaGreatDoor
namespace Go.Proofs.YtpbpiehcchannaaGreatDoor
open Go.RowKit
set_option linter.unusedVariables false
set_option linter.unusedSimpArgs false
set_option maxRecDepth 100000
set_option maxHeartbeats 1500000
structure OpV where
 K:Int
 v:VarV
 x:Int
def opA(o:OpV):List AV:= .val (.int .i64 o.K)::(varA (.bs 0 o.v.d) o.v++[.val (.int .u8 o.x)])
def opV0:OpV:=⟨0,varZ,0⟩
structure OpV.Ok(o:OpV):Prop where
 K:I64 o.K
 v:o.v.Ok
 x:0≤o.x∧o.x≤255
def sumO:List OpV→Int
 | []=>0
 | o::l=>(min (o.v.d.length:Int) 131072+min (o.v.nm.size:Int) 131072)+sumO l
theorem sumO_snoc(o:OpV):∀l,sumO (l++[o])=sumO l+(min (o.v.d.length:Int) 131072+min (o.v.nm.size:Int) 131072)
 | []=>by simp[sumO]
 | x::l=>by simp only[List.cons_append,sumO,sumO_snoc o l];omega
theorem sumO_nonneg:∀l,0≤sumO l
 | []=>by simp[sumO]
 | x::l=>by have:=sumO_nonneg l;simp only[sumO];omega
theorem sumO_take{l:List OpV}{i:Nat}(h:i<l.length):sumO (l.take (i+1))=sumO (l.take i)+(min ((l.getD i opV0).v.d.length:Int) 131072+min ((l.getD i opV0).v.nm.size:Int) 131072):=by
 rw[List.take_succ_eq_append_getElem h,sumO_snoc,List.getD_eq_getElem?_getD,List.getElem?_eq_getElem h];rfl
theorem sumO_append(a b:List OpV):sumO (a++b)=sumO a+sumO b:=by
 induction a with
 | nil=>simp[sumO]
 | cons x a ih=>simp only[List.cons_append,sumO,ih];omega
theorem sumO_le(l:List OpV)(i:Nat):sumO (l.take i)≤sumO l:=by
 have h:=sumO_append (l.take i) (l.drop i)
 rw[List.take_append_drop] at h
 have:=sumO_nonneg (l.drop i)
 omega
def vastO(l:List OpV):Bool:=decide (60<l.length)||decide (131072<sumO l)
theorem vast21_vc(z:Nat)(l:List OpV):Spec Tryz.prog 46 [.sl z 59 opA opV0 l] [] (pms (.val (.bool (vastO l))) [] []):=by
 refine spec_entry tbOk Tryz.func46 rfl Tryz.ntmps46 Tryz.results46 ?_
 refine gg (k:= ?_)
 refine⟨fun h=> ?_,fun h=> ?_⟩
 ·refine gg (k:= ?_)
  have hb:=of_decide_eq_true h
  rw[vastO,decide_eq_true (by omega:60<l.length)]
  exact⟨_,rfl,rfl,trivial⟩
 have hb:=of_decide_eq_false h
 rw[vastO,decide_eq_false (by omega:¬60<l.length),Bool.false_or]
 refine gg (k:= ?_)
 (refine sts (k:= ?_))
 conv=>whnf
 refine loop_at (fun i:Nat=>i≤l.length∧sumO (l.take i)≤131072) (fun i=>l.length - i) 0 [2,3,4,8,9,10,11,12,13,14,15,16,17,18,19,20,21,22,23,24,25,26,27,28,29,30,31,32,33,34] (fun i=>[(3,.val (.int .i64 (sumO (l.take i)))),(4,.val (.int .i64 i)),(2,.val (.bool false))]) (fun i=>[]) 0 ⟨Nat.zero_le _,by simp[sumO]⟩ ?_ ?_ ?_
 ·exact no_implicit_lambda%ten
 ·exact no_implicit_lambda%hen
 ·rintro i v ⟨i1,i2⟩
  have i0:=sumO_nonneg (l.take i)
  refine glp (k:= ?_)
  refine gg (k:= ?_)
  refine⟨fun h=> ?_,fun h=> ?_⟩
  ·have hlt:i<l.length:=by have:=of_decide_eq_true h;omega
   have hs:=sumO_take hlt
   have hs0:=sumO_nonneg (l.take (i+1))
   refine gg (k:= ?_)
   (refine sts (k:= ?_))
   refine draw_of (p:=0) tbOk hm [0,0,0,6,14,30,62,126,254,511,0,0,3072,7168,15360,31744,64512,130048,262143,524287] [⟨0,false,false,[]⟩,⟨1,false,false,[]⟩,⟨2,false,false,[]⟩,⟨3,true,false,[14,18,19,20,21,22,23,24,25,26,27,28,29,30,31,32,3]⟩,⟨4,true,false,[14,19,20,21,22,23,24,25,26,27,28,29,30,31,32,3]⟩,⟨5,true,false,[14,20,21,22,23,24,25,26,27,28,29,30,31,32,3]⟩,⟨6,true,false,[14,21,22,23,24,25,26,27,28,29,30,31,32,3]⟩,⟨7,true,false,[14,22,23,24,25,26,27,28,29,30,31,32,3]⟩,⟨8,false,false,[]⟩,⟨9,false,false,[]⟩,⟨10,false,false,[]⟩,⟨11,false,false,[]⟩,⟨12,true,false,[14,15,16,17,18,19,20,21,22,23,27,28,29,30,31,32,3]⟩,⟨13,true,false,[14,15,16,17,18,19,20,21,22,23,28,29,30,31,32,3]⟩,⟨14,true,false,[14,15,16,17,18,19,20,21,22,23,29,30,31,32,3]⟩,⟨15,true,false,[14,15,16,17,18,19,20,21,22,23,30,31,32,3]⟩,⟨16,true,false,[14,15,16,17,18,19,20,21,22,23,31,32,3]⟩,⟨17,false,false,[]⟩,⟨18,false,false,[]⟩,⟨19,false,false,[]⟩] (by kernel_rfl) ?_
   refine gg (k:= ?_)
   simp only[Bool.false_eq_true,if_false,Int.toNat_natCast]
   refine gg (k:= ?_)
   simp only[Bool.false_eq_true,if_false,Int.toNat_natCast]
   refine gg (k:= ?_)
   have hle:=sumO_le l (i+1)
   have hsum:sumO (l.take i)+min ((l.getD i opV0).v.d.length:Int) 131072+min ((l.getD i opV0).v.nm.size:Int) 131072=sumO (l.take (i+1)):=by rw[hs];omega
   rw[hsum]
   refine⟨fun h=> ?_,fun h=> ?_⟩
   ·have hb:=of_decide_eq_true h
    refine gg (k:= ?_)
    rw[decide_eq_true (by omega:131072<sumO l)]
    exact⟨_,rfl,rfl,trivial⟩
   ·have hb:=of_decide_eq_false h
    refine gg (k:= ?_)
    refine back_at (i+1) ⟨hlt,by omega⟩ (by show l.length - (i+1)<l.length - i;omega) ?_ ?_
    ·exact no_implicit_lambda%ten
    ·exact no_implicit_lambda%hen
  ·refine gg (k:= ?_)
   have hi:i=l.length:=by have:=of_decide_eq_false h;omega
   subst hi
   rw[List.take_length] at i2
   rw[decide_eq_false (by omega:¬131072<sumO l)]
   exact⟨_,rfl,rfl,trivial⟩
def sameV(a b:VarV):Bool:=decide (a.nm.data.toList=b.nm.data.toList)&&eqVs ((List.range 16).map fun i=>bv (a.g.getD i 0)) ((List.range 16).map fun i=>bv (b.g.getD i 0))&&decide (a.at_=b.at_)&&
 eqVs [Value.int .u16 a.t.y,.int .u8 a.t.m,.int .u8 a.t.d,.int .u8 a.t.h,.int .u8 a.t.mi,.int .u8 a.t.s] [Value.int .u16 b.t.y,.int .u8 b.t.m,.int .u8 b.t.d,.int .u8 b.t.h,.int .u8 b.t.mi,.int .u8 b.t.s]&&
 eqVs ((List.range 32).map fun i=>bv (a.ow.getD i 0)) ((List.range 32).map fun i=>bv (b.ow.getD i 0))&&decide ((strOf a.d).data.toList=(strOf b.d).data.toList)
theorem eqVs_bytes:∀(l m:List UInt8),eqVs (l.map bv) (m.map bv)=decide (l=m)
 | [],[]=>rfl
 | [],_::_=>rfl
 | _::_,[]=>rfl
 | x::l,y::m=>by
  simp only[List.map_cons,eqVs,eqVs_bytes l m,bv,eqV]
  rw[Bool.eq_iff_iff]
  simp only[Bool.and_eq_true,decide_eq_true_eq,List.cons.injEq]
  exact⟨fun h=>⟨UInt8.toNat_inj.1 (by exact_mod_cast h.1),h.2⟩,fun h=>⟨by rw[h.1],h.2⟩⟩
theorem range_getD(l:List UInt8)(n:Nat)(h:l.length=n):((List.range n).map fun i=>bv (l.getD i 0))=l.map bv:=by
 apply List.ext_getElem
 ·simp[h]
 ·intro i h1 h2
  simp only[List.length_map,List.length_range] at h1
  simp[List.getD_eq_getElem?_getD,h1,h]
theorem sameV_iff{a b:VarV}(ha:a.Ok)(hb:b.Ok):sameV a b=true↔a=b:=by
 unfold sameV
 rw[range_getD a.g 16 ha.g,range_getD b.g 16 hb.g,range_getD a.ow 32 ha.ow,range_getD b.ow 32 hb.ow,eqVs_bytes,eqVs_bytes]
 obtain⟨an,ag,aa,⟨ty,tm,td,th,ti,ts⟩,ao,ad⟩:=a
 obtain⟨bn,bg,ba,⟨uy,um,ud,uh,ui,us⟩,bo,bd⟩:=b
 simp only[eqVs,eqV,Bool.and_eq_true,decide_eq_true_eq,Bool.and_true,strOf_data,List.toList_toArray,VarV.mk.injEq,Tm.mk.injEq]
 constructor
 ·rintro⟨⟨⟨⟨⟨h1,h2⟩,h3⟩,h4⟩,h5⟩,h6⟩
  have e1:an=bn:=by rw[←strOf_toList an,h1,strOf_toList]
  exact⟨e1,h2,h3,h4,h5,of_decide_eq_true h6⟩
 ·rintro⟨rfl,rfl,rfl,h4,rfl,rfl⟩
  exact⟨⟨⟨⟨⟨rfl,rfl⟩,rfl⟩,h4⟩,rfl⟩,by simp⟩
theorem samevar_vc(a b:VarV)(ha:a.Ok)(hb:b.Ok)(za zb:Nat):Spec Tryz.prog 49 [.agg (varA (.bs za a.d) a),.agg (varA (.bs zb b.d) b)] [] (pms (.val (.bool (sameV a b))) [] []):=by
 refine spec_entry tbOk Tryz.func49 rfl Tryz.ntmps49 Tryz.results49 ?_
 unfold varA
 obtain⟨⟨a1,a2⟩,⟨b1,b2⟩,⟨c1,c2⟩,⟨d1,d2⟩,⟨e1,e2⟩,f1,f2⟩:=id ha.t
 obtain⟨⟨A1,A2⟩,⟨B1,B2⟩,⟨C1,C2⟩,⟨D1,D2⟩,⟨E1,E2⟩,F1,F2⟩:=id hb.t
 refine ggO (k:= ?_)
 exact⟨_,rfl,rfl,trivial⟩
end Go.Proofs.YtpbpiehcchannaaGreatDoor
namespace Go.Proofs.YtpbpiehcchannaaGreatDoor
open Go.RowKit
set_option linter.unusedVariables false
set_option linter.unusedSimpArgs false
set_option maxRecDepth 100000
set_option maxHeartbeats 1500000
def yOf(z:Int):Nat:=(128+z%2048).toNat
theorem yOf_eq(z:Int):((yOf z:Nat):Int)=128+z%2048:=by unfold yOf;omega
theorem yOf_bd(z:Int):128≤yOf z∧yOf z≤2175:=by have:=yOf_eq z;omega
theorem begun_vc (z : Int) (hz : 0 ≤ z ∧ z ≤ 65535) (s1 : FlS) (h1 : (FlS.new 2 (yOf z)).opn 1 = (0, s1)) : Spec Tryz.prog 50 [.val (.int .u16 z)] []
   (pms (.tup [.ref 20 2 6 0 0,.ref 21 2 1 0 0]) [] [(20,⟨2,.obj [.own 22 3 1 0 s1.l.length,.val (.int .i64 (s1.k:Int)),.val (.int .i64 s1.ar),.val (.int .i64 s1.pt),.val (.bool s1.dd),.val (.int .i64 s1.wr)]⟩),(22,⟨3,.bytes s1.l⟩),(21,⟨2,.obj [.ref 23 3 3 0 0]⟩),(23,⟨3,.obj [.ref 20 2 6 0 0,.ref 24 4 3 0 0,.ref 25 4 3 0 0]⟩),(24,⟨4,.obj [.ref 20 2 6 0 0,.val (.int .i64 ((0:Nat):Int)),.val (.int .i64 ((1:Nat):Int))]⟩),(25,⟨4,.obj [.ref 20 2 6 0 0,.val (.int .i64 ((1:Nat):Int)),.val (.int .i64 ((1:Nat):Int))]⟩)]):=by
 obtain⟨y1,y2⟩:=yOf_bd z
 have hy:=yOf_eq z
 obtain⟨y,hye⟩:∃y,y=yOf z:=⟨_,rfl⟩
 rw[←hye] at y1 y2 hy h1
 have la:Lies (2*y) y 0 1:=⟨by omega,by omega,by omega,by omega⟩
 have lb:Lies (2*y) y 1 1:=⟨by omega,by omega,by omega,by omega⟩
 have g0:Goes 0 (2*y) y (FlS.new 2 y):=Goes.new 2 y (by decide) (by omega)
 have hN:=spec_new 2 y (by decide) (by omega)
 have hop:=kopen_vc (FlS.new 2 y) 1 g0 (by decide) la lb (by omega) rfl (by rw[h1]) 2 3
 rw[h1] at hop
 generalize FlS.new 2 y=S at hN hop
 refine spec_entry tbOk Tryz.func50 rfl Tryz.ntmps50 Tryz.results50 ?_
 refine gg (k:= ?_)
 rw[←hy]
 refine cmks (hN) Tryz.call26 0 [0,0,0,0,0,0,0,0,0,0,0,0,0,0,0,0,0,0,0,0,0,0,0,0,22,0,0,20] [0,0,0,0,0,0,0,0,0,0,0,0,0,0,0,0,0,0,0,0,0,0,0,0,1,0,0,1] [27,24] ?_
 refine gg (k:= ?_)
 refine cmks (hop) Tryz.call58 2 [20,22,0,0,0,0,0,0,0,0,23,24,25,0,0,0,0,0,21] [0,0,0,0,0,0,0,0,0,0,1,1,1,0,0,0,0,0,1] [18,10,11,12] ?_
 refine gg (k:= ?_)
 exact⟨_,rfl,rfl,rfl,rfl,rfl,rfl,rfl,rfl,trivial⟩
end Go.Proofs.YtpbpiehcchannaaGreatDoor
