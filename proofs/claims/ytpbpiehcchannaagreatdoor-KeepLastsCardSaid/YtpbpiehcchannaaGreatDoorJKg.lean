/- Walks of stamp: days, Right, Write. Walk of stamp: Write. Walks of slices.Max, stamp.Read. Walks of vname: Right, Key. Conditions: the premises of each law. -/
import Derived.Test.YtpbpiehcchannaaGreatDoorJGa
namespace Go.Proofs.YtpbpiehcchannaaGreatDoor
set_option linter.unusedVariables false
set_option linter.unusedSimpArgs false
set_option maxRecDepth 100000
set_option maxHeartbeats 1500000
open Go.RowKit
def lT(y m:Int):Int:=if 13≤m then 0 else if m=2∧y%4=0∧(¬y%100=0∨y%400=0) then 29 else[0,31,28,31,30,31,30,31,31,30,31,30,31].getD m.toNat 0
theorem Qz(y m:Int)(hy:0≤y∧y≤65535)(QA:0≤m∧m≤255):Spec Tryz.prog 152 [.val (.int .u16 y),.val (.int .u8 m)] [] (bZ (.val (.int .u8 (lT y m))) []):=by
 refine ax ai Tryz.func152 rfl Tryz.ntmps152 Tryz.results152 ?_
 refine gg ?_
 refine⟨fun h=> ?_,fun h=> ?_⟩
 ·refine gg ?_
  refine⟨_,congrArg AV.val (congrArg (Value.int IntKind.u8) ?_),rfl⟩
  have:13≤m:=by simpa using h
  rw[lT,if_pos this]
 ·refine gg ?_
  simp only[dw,dc,List.map_cons,List.map_nil,List.nil_append,List.cons_append]
  have kO:¬13≤m:=by simpa using h
  refine⟨fun h=> ?_,fun h=> ?_⟩
  ·refine gg ?_
   refine⟨_,congrArg AV.val (congrArg (Value.int IntKind.u8) ?_),rfl⟩
   simp only[Bool.and_eq_true,Bool.or_eq_true,Bool.not_eq_true',decide_eq_true_eq,decide_eq_false_iff_not] at h
   rw[lT,if_neg kO,if_pos ⟨h.1.1,h.1.2,h.2⟩]
  ·refine gg ?_
   have hD:lT y m=[0,31,28,31,30,31,30,31,31,30,31,30,31].getD m.toNat 0:=by
    rw[lT,if_neg kO,if_neg]
    rintro⟨q1,q2,q3⟩
    simp only[q1,q2,decide_true,Bool.true_and,Bool.or_eq_false_iff,Bool.not_eq_false',decide_eq_true_eq,decide_eq_false_iff_not] at h
    rcases q3 with q3 | q3
    ·exact q3 h.1
    ·exact h.2 q3
   rw[hD]
   have hc:m=0∨m=1∨m=2∨m=3∨m=4∨m=5∨m=6∨m=7∨m=8∨m=9∨m=10∨m=11∨m=12:=by omega
   rcases hc with rfl | rfl | rfl | rfl | rfl | rfl | rfl | rfl | rfl | rfl | rfl | rfl | rfl
   all_goals
    refine gg ?_
    exact⟨_,rfl,rfl⟩
structure Tm where
 y:Int
 m:Int
 d:Int
 h:Int
 mi:Int
 s:Int
def Tm.ok(t:Tm):Prop:=(0≤t.y∧t.y≤65535)∧(0≤t.m∧t.m≤255)∧(0≤t.d∧t.d≤255)∧(0≤t.h∧t.h≤255)∧(0≤t.mi∧t.mi≤255)∧(0≤t.s∧t.s≤255)
def Tm.cells(t:Tm):List AV:=[.val (.int .u16 t.y),.val (.int .u8 t.m),.val (.int .u8 t.d),.val (.int .u8 t.h),.val (.int .u8 t.mi),.val (.int .u8 t.s)]
def Tm.right(t:Tm):Bool:=decide (1900≤t.y)&&decide (t.y≤9999)&&(decide (0<t.d)&&decide (t.d≤lT t.y t.m))&&decide (t.h<24)&&decide (t.mi<60)&&decide (t.s<60)
theorem Dp(t:Tm)(ht:t.ok):Spec Tryz.prog 108 [.agg t.cells] [] (bZ (.val (.bool t.right)) []):=by
 refine ax ai Tryz.func108 rfl Tryz.ntmps108 Tryz.results108 ?_
 refine gg ?_
 refine bL (p:=0) ai hm [0,1,3,7,15,31,15,79,15,271,975,2047,4095,8191] [⟨0,true,false,[5,6,7,8,9,10,11,12,13,14,15,16,3]⟩,⟨1,true,false,[6,7,8,9,10,11,12,13,14,15,16,3]⟩,⟨2,false,false,[]⟩,⟨3,false,false,[]⟩,⟨4,true,false,[9,10,11,12,13,14,15,16,3]⟩,⟨5,true,false,[10,11,12,13,14,15,16,3]⟩,⟨6,true,false,[8,9,11,12,13,14,15,16,3]⟩,⟨7,true,false,[8,9,12,13,14,15,16,3]⟩,⟨8,true,false,[8,9,10,11,13,14,15,16,3]⟩,⟨9,true,false,[8,9,10,11,14,15,16,3]⟩,⟨10,true,false,[8,9,15,16,3]⟩,⟨11,false,false,[]⟩,⟨12,false,false,[]⟩,⟨13,false,false,[]⟩] (by kernel_rfl) ?_
 refine gg ?_
 conv=>whnf
 refine And.intro (fun hG=>And.intro ⟨trivial,hG,hG,trivial⟩ ?_) (fun hG=> ?_)
 ·refine aY (Qz t.y t.m ht.1 ht.2.1) Tryz.call152 [] ?_
  refine gg ?_
  exact⟨_,rfl,rfl⟩
 ·skip
  have h0:decide (0<t.d)=false:=by
   cases h:decide (0<t.d) with
   | true=>exact absurd h hG
   | false=>rfl
  refine gg ?_
  refine⟨_,congrArg AV.val (congrArg Value.bool ?_),rfl⟩
  rw[Tm.right,h0]
  simp
def u8(x:Int):UInt8:=UInt8.ofNat x.toNat
theorem Dq (x : Int) (hx : 0 ≤ x ∧ x ≤ 18446744073709551615) (n : Int) (hn : n = 1 ∨ n = 2 ∨ n = 4 ∨ n = 8) : Spec Tryz.prog 110 [.val (.slice none 0 0), .val (.int .u64 x), .val (.int .i64 n)] []
   (ak (.own 7 5 1 0 n.toNat) [] [(7,⟨5,.bytes (bz n.toNat x)⟩)]):=by
 have h:=kC (GQ [] (by decide) 0 x hx n hn) trivial ⟨trivial,trivial⟩ (rows:=[]) (args:=[.val (.slice none 0 0),.val (.int .u64 x),.val (.int .i64 n)]) (eA xQ (eA o5 (eA o5 iq)))
 have e:(([]:List UInt8).length+n.toNat)=n.toNat:=Nat.zero_add _
 rw[e] at h
 exact h
def Tm.bytes(t:Tm):List UInt8:=bz 2 t.y++[u8 t.m,u8 t.d,u8 t.h,u8 t.mi,u8 t.s]++List.replicate 9 0
theorem IX(t:Tm)(ht:t.ok):Spec Tryz.prog 111 [.agg t.cells] [] (ak (.own 7 8 1 0 16) [] [(7,⟨8,.bytes t.bytes⟩)]):=by
 obtain⟨⟨a1,a2⟩,⟨b1,b2⟩,⟨c1,c2⟩,⟨d1,d2⟩,⟨e1,e2⟩,f1,f2⟩:=ht
 refine nh ai Tryz.func111 rfl Tryz.ntmps111 Tryz.results111 ?_
 refine gg ?_
 refine bL (p:=0) ai hm [0,1,3,7,0,16,0,64,0,256,0,1024,0,4096,16368,32767,65535] [⟨0,true,false,[5,6,7,8,9,10,11,12,13,14,15,16,17,18,19,3]⟩,⟨1,true,false,[6,7,8,9,10,11,12,13,14,15,16,17,18,19,3]⟩,⟨2,true,false,[7,8,9,10,11,12,13,14,15,16,17,18,19,3]⟩,⟨4,true,false,[4,5,6,7,9,10,11,12,13,14,15,16,17,18,19,3]⟩,⟨5,true,false,[4,5,6,7,10,11,12,13,14,15,16,17,18,19,3]⟩,⟨6,true,false,[4,5,6,7,8,9,11,12,13,14,15,16,17,18,19,3]⟩,⟨7,true,false,[4,5,6,7,8,9,12,13,14,15,16,17,18,19,3]⟩,⟨8,true,false,[4,5,6,7,8,9,10,11,13,14,15,16,17,18,19,3]⟩,⟨9,true,false,[4,5,6,7,8,9,10,11,14,15,16,17,18,19,3]⟩,⟨10,true,false,[4,5,6,7,8,9,10,11,12,13,15,16,17,18,19,3]⟩,⟨11,true,false,[4,5,6,7,8,9,10,11,12,13,16,17,18,19,3]⟩,⟨12,true,false,[4,5,6,7,8,9,10,11,12,13,14,15,17,18,19,3]⟩,⟨13,true,false,[4,5,6,7,8,9,10,11,12,13,14,15,18,19,3]⟩,⟨14,false,false,[18]⟩,⟨3,true,false,[8,9,10,11,12,13,14,15,16,17,18,19,3]⟩,⟨15,true,true,[3]⟩,⟨16,false,false,[]⟩] (by kernel_rfl) ?_
 iterate 40 refine bD ?_
 conv=>whnf
 refine And.intro ?_ ?_
 ·repeat' (first | exact rfl | exact trivial | exact b1 | exact b2 | exact c1 | exact c2 | exact d1 | exact d2 | exact e1 | exact e2 | exact f1 | exact f2 | exact Nat.le_of_ble_eq_true rfl | refine And.intro ?_ ?_)
 refine And.intro ?_ ?_
 ·exact⟨.inl rfl,trivial⟩
 refine gg ?_
 have ey:t.y%18446744073709551616=t.y:=by omega
 rw[ey]
 refine af (Dq t.y (by omega) 2 (by omega)) Tryz.call110 0 [0,0,0,0,0,0,0,7] [0,0,0,0,0,0,0,1] [7] ?_
 refine gg ?_
 conv=>whnf
 refine⟨[u8 t.m,u8 t.d,u8 t.h,u8 t.mi,u8 t.s],?_⟩
 conv=>whnf
 have jx:=ec 2 t.y
 refine And.intro ⟨rfl,⟨rfl,rfl,Nat.le_of_ble_eq_true rfl⟩,rfl,rfl,rfl,rfl,rfl,rfl,Nat.le_of_ble_eq_true rfl,by decide⟩ ?_
 refine gg ?_
 conv=>whnf
 refine⟨List.replicate 9 0,?_⟩
 conv=>whnf
 refine And.intro ⟨rfl,⟨by decide,by decide,by decide,rfl,rfl⟩,rfl,rfl,rfl,rfl,rfl,rfl,Nat.le_of_ble_eq_true rfl,by decide⟩ ?_
 refine gg ?_
 refine⟨_,jb _,?_⟩
 refine gg ?_
 exact⟨_,rfl,rfl,rfl,trivial⟩
theorem QB(n z:Nat)(hn:0<n)(hb:n≤140737488355328):Spec Tryz.prog 178 [.bs z (List.replicate n 0)] [] (bZ (.val (.int .u8 0)) []):=by
 have hl:(List.replicate n (0:UInt8)).length=n:=List.length_replicate
 refine ax ai Tryz.func178 rfl Tryz.ntmps178 Tryz.results178 ?_
 refine gg ?_
 have hd:∀i:Int,(List.replicate n (0:UInt8)).getD i.toNat 0=0:=by
  intro i
  rw[List.getD_eq_getElem?_getD,List.getElem?_replicate]
  split<;>rfl
 rw[hd,show(((0:UInt8).toNat:Nat):Int)=0 from rfl]
 conv=>whnf
 refine cE (fun i:Nat=>i+1≤n) (fun i=>n - i) 1 [3,4,12,13,14,15,16,17,18,19,20,21,22,23] (fun i=>[(3,.val (.int .u8 0)),(4,.val (.int .i64 ((i:Int)+1)))]) (fun _=>[]) 0 (by omega) ?_ ?_ ?_
 ·exact no_implicit_lambda%ten
 ·exact no_implicit_lambda%b6
 ·rintro i v h1
  refine cF ?_
  refine gg ?_
  refine⟨fun h=> ?_,fun h=> ?_⟩
  ·have hi:i+1<n:=by have:=of_decide_eq_true h;rw[hl] at this;omega
   refine gg ?_
   rw[hd]
   exact bk (i+1) hi (by show n - (i+1)<n - i;omega)
  ·refine gg ?_
   exact⟨_,rfl,rfl⟩
theorem QC(y:Int)(hy:0≤y∧y≤65535):(dG (bz 2 y):Int)=y:=by
 have e:bz 2 y=[UInt8.ofNat (y%256).toNat,UInt8.ofNat (y/256%256).toNat]:=by
  simp[bz,List.range_succ]
 rw[e]
 simp only[dG,UInt8.toNat_ofNat']
 omega
def Tm.pN(t:Tm):Prop:=t.ok∧(t=⟨0,0,0,0,0,0⟩∨t.right=true)
theorem QD(t:Tm)(ht:t.pN)(z:Nat):Spec Tryz.prog 143 [.bs z t.bytes] [] (bZ (.aD [.agg t.cells,.val (.int .i64 0)]) []):=by
 obtain⟨ho,hr⟩:=ht
 have hlen:t.bytes.length=16:=by simp[Tm.bytes,ec]
 have G9:t.bytes.drop 7=List.replicate 9 0:=rfl
 refine ax ai Tryz.func143 rfl Tryz.ntmps143 Tryz.results143 ?_
 refine gg ?_
 rw[hlen]
 conv=>whnf
 refine ji (hA:=fun hG=>⟨trivial,hG,trivial⟩) (k:= ?_)
 rw[show List.drop (Int.toNat 7) (List.take (((16:Nat):Int)).toNat t.bytes)=List.replicate 9 0 from rfl]
 refine aY (QB 9 z (by decide) (by decide)) Tryz.call178 [] ?_
 refine gg ?_
 refine aY (B7 t.bytes (by omega) z 0 2 (by unfold aX;omega) (by unfold aX;omega) _ rfl) Tryz.call142 [] ?_
 rw[if_pos ⟨by decide,by decide,by decide,by rw[hlen];decide⟩,show List.take (Int.toNat 2) (List.drop (Int.toNat 0) t.bytes)=bz 2 t.y from rfl,QC t.y ho.1]
 refine gg ?_
 refine bL (p:=0) ai hm [0,1,0,4,12,0,32,96,0,256,768,0,2048,6144,0,16384,49152,131071,0,524287] [⟨0,false,false,[]⟩,⟨1,true,false,[24,25,26,27,28,29,30,31,32,33,34,35,36,37,38,39,6]⟩,⟨2,false,false,[]⟩,⟨3,true,false,[22,23,26,27,28,29,30,31,32,33,34,35,36,37,38,39,6]⟩,⟨4,true,false,[22,23,27,28,29,30,31,32,33,34,35,36,37,38,39,6]⟩,⟨5,false,false,[]⟩,⟨6,true,false,[22,23,24,25,26,29,30,31,32,33,34,35,36,37,38,39,6]⟩,⟨7,true,false,[22,23,24,25,26,30,31,32,33,34,35,36,37,38,39,6]⟩,⟨8,false,false,[]⟩,⟨9,true,false,[22,23,24,25,26,27,28,29,32,33,34,35,36,37,38,39,6]⟩,⟨10,true,false,[22,23,24,25,26,27,28,29,33,34,35,36,37,38,39,6]⟩,⟨11,false,false,[]⟩,⟨12,true,false,[22,23,24,25,26,27,28,29,30,31,32,35,36,37,38,39,6]⟩,⟨13,true,false,[22,23,24,25,26,27,28,29,30,31,32,36,37,38,39,6]⟩,⟨14,false,false,[]⟩,⟨15,true,false,[22,23,24,25,26,27,28,29,30,31,32,33,34,35,38,39,6]⟩,⟨16,true,false,[22,23,24,25,26,27,28,29,30,31,32,33,34,35,39,6]⟩,⟨17,true,false,[6]⟩,⟨18,true,false,[22,23,24,25,26,27,28,29,30,31,32,33,34,35,36,37,38,39]⟩,⟨19,true,true,[]⟩] (by kernel_rfl) ?_
 refine gg ?_
 simp only[dw,dc,List.map_cons,List.map_nil,List.nil_append,List.cons_append]
 obtain⟨⟨a1,a2⟩,⟨b1,b2⟩,⟨c1,c2⟩,⟨d1,d2⟩,⟨e1,e2⟩,f1,f2⟩:=id ho
 have hu:∀x:Int,0≤x→x≤255→(((u8 x).toNat:Nat):Int)=x:=by
  intro x h1 h2
  simp only[u8,UInt8.toNat_ofNat']
  omega
 rw[show t.bytes.getD (Int.toNat 2) 0=u8 t.m from rfl,show t.bytes.getD (Int.toNat 3) 0=u8 t.d from rfl,show t.bytes.getD (Int.toNat 4) 0=u8 t.h from rfl,show t.bytes.getD (Int.toNat 5) 0=u8 t.mi from rfl,show t.bytes.getD (Int.toNat 6) 0=u8 t.s from rfl,hu _ b1 b2,hu _ c1 c2,hu _ d1 d2,hu _ e1 e2,hu _ f1 f2,show t.y%65536=t.y by omega]
 refine gg ?_
 conv=>whnf
 rcases hr with hz | hR
 ·refine And.intro (fun h=> ?_) (fun h=> ?_)
  ·subst hz
   exact absurd h (by decide)
  ·have hG:(!eK [Value.int .u16 t.y,.int .u8 t.m,.int .u8 t.d,.int .u8 t.h,.int .u8 t.mi,.int .u8 t.s] [Value.int .u16 0,.int .u8 0,.int .u8 0,.int .u8 0,.int .u8 0,.int .u8 0])=false:=by subst hz;rfl
   rw[hG]
   refine gg ?_
   exact⟨_,rfl,rfl⟩
 ·have hy:1900≤t.y:=by
    unfold Tm.right at hR
    simp only[Bool.and_eq_true,decide_eq_true_eq] at hR
    omega
  have hG:(!eK [Value.int .u16 t.y,.int .u8 t.m,.int .u8 t.d,.int .u8 t.h,.int .u8 t.mi,.int .u8 t.s] [Value.int .u16 0,.int .u8 0,.int .u8 0,.int .u8 0,.int .u8 0,.int .u8 0])=true:=by
   have:decide (t.y=0)=false:=decide_eq_false (by omega)
   simp[eK,lW,this]
  refine And.intro (fun h=>And.intro ⟨trivial,h,trivial⟩ ?_) (fun h=>absurd hG h)
  refine aY (Dp t ho) Tryz.call108 (hon:=⟨⟨trivial,trivial,trivial,trivial,trivial,trivial,trivial⟩,trivial⟩) [] ?_
  rw[hR,hG]
  refine gg ?_
  exact⟨_,rfl,rfl⟩
def ki(c:UInt8):Bool:=decide (33≤c.toNat)&&decide (c.toNat≤126)
def bM(s:ByteArray):Bool:=s.data.toList.all ki&&(decide (1≤s.size)&&decide (s.size≤64))
theorem yF(s:ByteArray)(hs:s.size≤140737488355328):Spec Tryz.prog 141 [.val (.string s)] [] (bZ (.val (.bool (bM s))) []):=by
 obtain⟨l,hl⟩:∃l,s.data.toList=l:=⟨_,rfl⟩
 have hz:s.size=l.length:=by rw[←hl];simp
 have hr:bM s=(l.all ki&&(decide (1≤l.length)&&decide (l.length≤64))):=by unfold bM;rw[hl,hz]
 rw[hr]
 refine ax ai Tryz.func141 rfl Tryz.ntmps141 Tryz.results141 ?_
 refine gg ?_
 (refine aH ?_)
 rw[hl,hz,show(Bd.bytes l).sz=1 from rfl]
 conv=>whnf
 refine cE (fun i:Nat=>i≤l.length∧(l.take i).all ki=true) (fun i=>l.length - i) 1 [2,4,8,9,10,11,12,13,14,15,16,17,18] (fun i=>[(8,.val (.int .i64 i))]) (fun _=>[]) 0 ⟨Nat.zero_le _,rfl⟩ ?_ ?_ ?_
 ·exact no_implicit_lambda%ten
 ·exact no_implicit_lambda%b6
 ·rintro i v ⟨h1,h2⟩
  refine cF ?_
  refine gg ?_
  refine⟨fun h=> ?_,fun h=> ?_⟩
  ·have hi:i<l.length:=by have:=of_decide_eq_true h;omega
   refine gg ?_
   have hd:l.getD (0+(i:Int).toNat) 0=l[i]:=by simp[hi]
   rw[hd]
   refine⟨fun h=> ?_,fun h=> ?_⟩
   ·refine gg ?_
    refine⟨_,congrArg AV.val (congrArg Value.bool ?_),rfl⟩
    have h0:ki l[i]=false:=by
     simp only[Bool.or_eq_true,decide_eq_true_eq] at h
     simp only[ki,Bool.and_eq_false_iff,decide_eq_false_iff_not]
     omega
    have h9:l.all ki=false:=by
     rw[List.all_eq_false]
     exact⟨l[i],List.getElem_mem hi,by rw[h0];decide⟩
    rw[h9];rfl
   ·refine gg ?_
    have h0:ki l[i]=true:=by
     simp only[Bool.or_eq_false_iff,decide_eq_false_iff_not] at h
     simp only[ki,Bool.and_eq_true,decide_eq_true_eq]
     omega
    exact bk (i+1) ⟨by omega,by rw[List.take_succ_eq_append_getElem hi,List.all_append,h2];simp[h0]⟩ (by show l.length - (i+1)<l.length - i;omega)
  ·refine gg ?_
   have hi:i=l.length:=by have:=of_decide_eq_false h;omega
   refine⟨_,congrArg AV.val (congrArg Value.bool ?_),rfl⟩
   rw[hi,List.take_length] at h2
   rw[h2,hz]
   have e1:decide ((1:Int)≤(l.length:Int))=decide (1≤l.length):=by rw[decide_eq_decide];omega
   have e2:decide ((l.length:Int)≤64)=decide (l.length≤64):=by rw[decide_eq_decide];omega
   rw[e1,e2,Bool.true_and]
theorem QE(g:List UInt8)(hg:g.length=16):[g.getD 0 0,g.getD 1 0,g.getD 2 0,g.getD 3 0,g.getD 4 0,g.getD 5 0,g.getD 6 0,g.getD 7 0,g.getD 8 0,g.getD 9 0,g.getD 10 0,g.getD 11 0,g.getD 12 0,g.getD 13 0,g.getD 14 0,g.getD 15 0]=g:=by
 match g,hg with
 | [_,_,_,_,_,_,_,_,_,_,_,_,_,_,_,_],_=>rfl
theorem IY(g:List UInt8)(hg:g.length=16):List.map (fun n:Int=>UInt8.ofNat n.toNat) [(((g.getD 0 0).toNat:Nat):Int),(((g.getD 1 0).toNat:Nat):Int),(((g.getD 2 0).toNat:Nat):Int),(((g.getD 3 0).toNat:Nat):Int),(((g.getD 4 0).toNat:Nat):Int),(((g.getD 5 0).toNat:Nat):Int),(((g.getD 6 0).toNat:Nat):Int),(((g.getD 7 0).toNat:Nat):Int),(((g.getD 8 0).toNat:Nat):Int),(((g.getD 9 0).toNat:Nat):Int),(((g.getD 10 0).toNat:Nat):Int),(((g.getD 11 0).toNat:Nat):Int),(((g.getD 12 0).toNat:Nat):Int),(((g.getD 13 0).toNat:Nat):Int),(((g.getD 14 0).toNat:Nat):Int),(((g.getD 15 0).toNat:Nat):Int)]=g:=by
 refine Eq.trans ?_ (QE g hg)
 simp
theorem Dr:∀(l:List UInt8),qf (l.map fun b=>((b.toNat:Nat):Int))
 | []=>trivial
 | b::l=>⟨⟨by show(0:Int)≤((b.toNat:Nat):Int);omega,by show((b.toNat:Nat):Int)≤255;have:=b.toNat_lt;omega⟩,Dr l⟩
theorem yG (s : ByteArray) (hs : s.size ≤ 140737488355328) (g : List UInt8) (hR : bM s = false) : Spec Tryz.prog 97 [.val (.string s), .agg (bC 16 g)] []
   (bZ (.aD [.val (.slice none 0 0),.val (.int .i64 1)]) []):=by
 refine ax ai Tryz.func97 rfl Tryz.ntmps97 Tryz.results97 ?_
 refine gg ?_
 refine aY (yF s hs) Tryz.call141 [] ?_
 rw[hR]
 refine gg ?_
 exact⟨_,rfl,rfl⟩
theorem ta (s : ByteArray) (hs : s.size ≤ 140737488355328) (g : List UInt8) (hg : g.length = 16) (hR : bM s = true) : Spec Tryz.prog 97 [.val (.string s), .agg (bC 16 g)] []
   (ak (.aD [.own 3 3 1 0 (16+s.size),.val (.int .i64 0)]) [] [(3,⟨3,.bytes (g++s.data.toList)⟩)]):=by
 obtain⟨l,hl⟩:∃l,s.data.toList=l:=⟨_,rfl⟩
 have hz:s.size=l.length:=by rw[←hl];simp
 refine nh ai Tryz.func97 rfl Tryz.ntmps97 Tryz.results97 ?_
 refine gg ?_
 refine aY (yF s hs) Tryz.call141 [] ?_
 rw[hR]
 refine gg ?_
 conv=>whnf
 refine And.intro ⟨rfl,⟨Dr [g.getD 0 0,g.getD 1 0,g.getD 2 0,g.getD 3 0,g.getD 4 0,g.getD 5 0,g.getD 6 0,g.getD 7 0,g.getD 8 0,g.getD 9 0,g.getD 10 0,g.getD 11 0,g.getD 12 0,g.getD 13 0,g.getD 14 0,g.getD 15 0],rfl,rfl⟩,rfl,rfl,rfl,by decide,by decide,by decide,by decide⟩ ?_
 rw[IY g hg]
 refine gg ?_
 conv=>whnf
 refine⟨s.data.toList,?_⟩
 conv=>whnf
 rw[hl]
 have qj:l.length≤64:=by
  unfold bM at hR
  simp only[Bool.and_eq_true,decide_eq_true_eq] at hR
  omega
 refine And.intro ⟨rfl,trivial,rfl,rfl,rfl,hg.symm,rfl,rfl,(by simp only[hg];omega),by decide⟩ ?_
 refine gg ?_
 refine⟨_,jb _,?_⟩
 refine gg ?_
 refine⟨_,?_,rfl,rfl,trivial⟩
 rw[←hg,hz]
 rfl
end Go.Proofs.YtpbpiehcchannaaGreatDoor
