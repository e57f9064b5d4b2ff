/- Walks of lintelref11: days, Right, Write. Walk of lintelref11: Read. Walk of lintelref11: Write. Conditions: the premises of each law. -/
import Derived.Test.YtpbpiehcchannaaGreatDoorJKqa
namespace Go.Proofs.YtpbpiehcchannaaGreatDoor
set_option linter.unusedVariables false
set_option linter.unusedSimpArgs false
set_option maxRecDepth 100000
set_option maxHeartbeats 1500000
open Go.RowKit
theorem Rz(y m:Int)(hy:0≤y∧y≤65535)(QA:0≤m∧m≤255):Spec Tryz.prog 184 [.val (.int .i64 y),.val (.int .i64 m)] [] (bZ (.val (.int .i64 (lT y m))) []):=by
 refine ax ai Tryz.func184 rfl Tryz.ntmps184 Tryz.results184 ?_
 by_cases kO:13≤m
 ·rw[lT,if_pos kO]
  refine aE ?_
  exact⟨_,rfl,rfl⟩
 by_cases h2:m=2
 ·subst h2
  refine aE ?_
  refine⟨fun h=> ?_,fun h=> ?_⟩
  ·refine aE ?_
   refine⟨_,congrArg AV.val (congrArg (Value.int IntKind.i64) ?_),rfl⟩
   simp only[Bool.and_eq_true,Bool.or_eq_true,Bool.not_eq_true',decide_eq_true_eq,decide_eq_false_iff_not] at h
   rw[lT,if_neg kO,if_pos ⟨rfl,h.1,h.2⟩]
  ·refine aE ?_
   refine⟨_,congrArg AV.val (congrArg (Value.int IntKind.i64) ?_),rfl⟩
   rw[lT,if_neg kO,if_neg]
   ·rfl
   rintro⟨q1,q2,q3⟩
   simp only[q2,decide_true,Bool.true_and,Bool.or_eq_false_iff,Bool.not_eq_false',decide_eq_true_eq,decide_eq_false_iff_not] at h
   rcases q3 with q3 | q3
   ·exact q3 h.1
   ·exact h.2 q3
 ·have hD:lT y m=[0,31,28,31,30,31,30,31,31,30,31,30,31].getD m.toNat 0:=by
    rw[lT,if_neg kO,if_neg (fun q=>h2 q.1)]
  rw[hD]
  have hc:m=0∨m=1∨m=3∨m=4∨m=5∨m=6∨m=7∨m=8∨m=9∨m=10∨m=11∨m=12:=by omega
  rcases hc with rfl | rfl | rfl | rfl | rfl | rfl | rfl | rfl | rfl | rfl | rfl | rfl
  all_goals
   refine aE ?_
   exact⟨_,rfl,rfl⟩
theorem Jw(t:Tm)(ht:t.ok):Spec Tryz.prog 149 [.agg t.cells] [] (bZ (.val (.bool t.right)) []):=by
 obtain⟨⟨a1,a2⟩,⟨b1,b2⟩,⟨c1,c2⟩,⟨d1,d2⟩,⟨e1,e2⟩,f1,f2⟩:=ht
 refine ax ai Tryz.func149 rfl Tryz.ntmps149 Tryz.results149 ?_
 refine gg ?_
 refine bL (p:=0) ai hm [0,1,3,7,15,31,63,127,255,511,1023,2047,4095,8191,16383,32767,65535,16383,147455,409599,16383,1064959,3162111,8273919,16777215,33554431,67108863,134217727,268435455,536870911,1073741823,2147483647,4294967295,8589934591,17179869183,34359738367,68719476735,137438953471,274877906943,549755813887,1099511627775,2199023255551] [⟨0,true,false,[4,5,6,7,8,9,10,11,12,13,14,15,16,17,18,19,20,21,22,23,24,25,26,27,28,29,30,31,32,33,34,35,36,37,38,39,40,41,42,43,2]⟩,⟨1,true,false,[5,6,7,8,9,10,11,12,13,14,15,16,17,18,19,20,21,22,23,24,25,26,27,28,29,30,31,32,33,34,35,36,37,38,39,40,41,42,43,2]⟩,⟨2,false,false,[]⟩,⟨3,false,false,[]⟩,⟨4,true,false,[8,9,10,11,12,13,14,15,16,17,18,19,20,21,22,23,24,25,26,27,28,29,30,31,32,33,34,35,36,37,38,39,40,41,42,43,2]⟩,⟨5,true,false,[9,10,11,12,13,14,15,16,17,18,19,20,21,22,23,24,25,26,27,28,29,30,31,32,33,34,35,36,37,38,39,40,41,42,43,2]⟩,⟨6,false,false,[]⟩,⟨7,false,false,[]⟩,⟨8,false,false,[]⟩,⟨9,true,false,[13,14,15,16,17,18,19,20,21,22,23,24,25,26,27,28,29,30,31,32,33,34,35,36,37,38,39,40,41,42,43,2]⟩,⟨10,true,false,[14,15,16,17,18,19,20,21,22,23,24,25,26,27,28,29,30,31,32,33,34,35,36,37,38,39,40,41,42,43,2]⟩,⟨11,false,false,[]⟩,⟨12,false,false,[]⟩,⟨13,false,false,[]⟩,⟨14,true,false,[18,19,20,21,22,23,24,25,26,27,28,29,30,31,32,33,34,35,36,37,38,39,40,41,42,43,2]⟩,⟨15,true,false,[19,20,21,22,23,24,25,26,27,28,29,30,31,32,33,34,35,36,37,38,39,40,41,42,43,2]⟩,⟨16,true,false,[20,21,22,23,24,25,26,27,28,29,30,31,32,33,34,35,36,37,38,39,40,41,42,43,2]⟩,⟨17,true,false,[17,18,19,21,22,23,24,25,26,27,28,29,30,31,32,33,34,35,36,37,38,39,40,41,42,43,2]⟩,⟨18,true,false,[17,18,19,22,23,24,25,26,27,28,29,30,31,32,33,34,35,36,37,38,39,40,41,42,43,2]⟩,⟨19,true,false,[17,18,19,23,24,25,26,27,28,29,30,31,32,33,34,35,36,37,38,39,40,41,42,43,2]⟩,⟨20,true,false,[17,18,19,20,21,22,24,25,26,27,28,29,30,31,32,33,34,35,36,37,38,39,40,41,42,43,2]⟩,⟨21,true,false,[17,18,19,20,21,22,25,26,27,28,29,30,31,32,33,34,35,36,37,38,39,40,41,42,43,2]⟩,⟨22,true,false,[17,18,19,20,21,22,26,27,28,29,30,31,32,33,34,35,36,37,38,39,40,41,42,43,2]⟩,⟨23,true,false,[17,18,19,27,28,29,30,31,32,33,34,35,36,37,38,39,40,41,42,43,2]⟩,⟨24,false,false,[]⟩,⟨25,false,false,[]⟩,⟨26,false,false,[]⟩,⟨27,true,false,[31,32,33,34,35,36,37,38,39,40,41,42,43,2]⟩,⟨28,true,false,[32,33,34,35,36,37,38,39,40,41,42,43,2]⟩,⟨29,false,false,[]⟩,⟨30,false,false,[]⟩,⟨31,false,false,[]⟩,⟨32,true,false,[36,37,38,39,40,41,42,43,2]⟩,⟨33,true,false,[37,38,39,40,41,42,43,2]⟩,⟨34,false,false,[]⟩,⟨35,false,false,[]⟩,⟨36,false,false,[]⟩,⟨37,true,false,[41,42,43,2]⟩,⟨38,true,false,[42,43,2]⟩,⟨39,false,false,[]⟩,⟨40,false,false,[]⟩,⟨41,false,false,[]⟩] (by kernel_rfl) ?_
 refine gg ?_
 conv=>whnf
 refine And.intro (fun hG=>And.intro ⟨trivial,hG,hG,trivial⟩ ?_) (fun hG=> ?_)
 ·refine aY (Rz t.y t.m ⟨a1,a2⟩ ⟨b1,b2⟩) Tryz.call184 [] ?_
  refine aE ?_
  refine⟨_,congrArg AV.val (congrArg Value.bool ?_),rfl⟩
  simp only[Tm.right]
  have o7:decide (1≤t.d)=decide (0<t.d):=decide_eq_decide.2 (by omega)
  simp[o7,Bool.and_assoc]
 ·have h0:(decide (1900≤t.y)&&decide (t.y≤9999)&&decide (1≤t.d))=false:=Bool.eq_false_iff.2 hG
  rw[h0]
  refine aE ?_
  refine⟨_,congrArg AV.val (congrArg Value.bool ?_),rfl⟩
  have o7:decide (1≤t.d)=decide (0<t.d):=decide_eq_decide.2 (by omega)
  rw[o7] at h0
  simp only[Tm.right,←Bool.and_assoc,h0,Bool.false_and]
theorem RA(t:Tm)(ht:t.pN)(z:Nat):Spec Tryz.prog 148 [.bs z t.bytes] [] (bZ (.aD [.agg t.cells,.val (.int .i64 0)]) []):=by
 obtain⟨ho,hr⟩:=ht
 have hlen:t.bytes.length=16:=by simp[Tm.bytes,ec]
 obtain⟨⟨a1,a2⟩,⟨b1,b2⟩,⟨c1,c2⟩,⟨d1,d2⟩,⟨e1,e2⟩,f1,f2⟩:=id ho
 have hu:∀x:Int,0≤x→x≤255→(((u8 x).toNat:Nat):Int)=x:=by
  intro x h1 h2
  simp only[u8,UInt8.toNat_ofNat']
  omega
 have hy:((((t.bytes.getD (Int.toNat 0) 0).toNat:Nat):Int)%65536+256*((((t.bytes.getD (Int.toNat 1) 0).toNat:Nat):Int)%65536)%65536)%65536=t.y:=by
  have e0:(((t.bytes.getD (Int.toNat 0) 0).toNat:Nat):Int)=t.y%256:=by
   have:t.bytes.getD (Int.toNat 0) 0=u8 (t.y%256):=by simp[Tm.bytes,bz,List.range_succ,u8]
   rw[this,hu _ (by omega) (by omega)]
  have e1:(((t.bytes.getD (Int.toNat 1) 0).toNat:Nat):Int)=t.y/256%256:=by
   have:t.bytes.getD (Int.toNat 1) 0=u8 (t.y/256%256):=by simp[Tm.bytes,bz,List.range_succ,u8]
   rw[this,hu _ (by omega) (by omega)]
  rw[e0,e1]
  omega
 refine ax ai Tryz.func148 rfl Tryz.ntmps148 Tryz.results148 ?_
 refine gg ?_
 rw[hlen]
 refine gg ?_
 refine cE (fun i:Nat=>i≤9) (fun i=>9 - i) 0 [3,4,10,11,12,13,14,15,16,17,18,19] (fun i=>[(4,.val (.int .i64 ((7+i:Nat):Int)))])
  (fun i=>[]) 0 (Nat.zero_le _) ?_ ?_ ?_
 ·exact no_implicit_lambda%ten
 ·exact no_implicit_lambda%b6
 rintro i v i1
 refine cF ?_
 refine gg ?_
 refine⟨fun h=> ?_,fun h=> ?_⟩
 ·have h9:i<9:=by have:=of_decide_eq_true h;omega
  refine gg ?_
  have hz:t.bytes.getD ((7+i:Nat):Int).toNat 0=0:=by
   have:t.bytes.drop 7=List.replicate 9 0:=rfl
   rw[Int.toNat_natCast,List.getD_eq_getElem?_getD,←List.getElem?_drop,this,List.getElem?_replicate,if_pos h9]
   rfl
  rw[hz]
  refine gg ?_
  exact bk (i+1) (by omega) (by show 9 - (i+1)<9 - i;omega)
 ·have h9:i=9:=by have:=of_decide_eq_false h;omega
  subst h9
  refine gg ?_
  refine bL (p:=0) ai hm [0,1,3,7,0,16,48,112,240,511,0,1024,3072,0,8192,24576,0,65536,196608,0,524288,1572864,0,4194304,12582912,33554431,0,134217727] [⟨0,false,false,[]⟩,⟨1,true,false,[22,23,24,25,26,27,28,29,30,31,32,33,34,35,36,37,38,39,40,41,42,43,44,45,5]⟩,⟨2,true,false,[23,24,25,26,27,28,29,30,31,32,33,34,35,36,37,38,39,40,41,42,43,44,45,5]⟩,⟨3,true,false,[24,25,26,27,28,29,30,31,32,33,34,35,36,37,38,39,40,41,42,43,44,45,5]⟩,⟨4,false,false,[]⟩,⟨5,true,false,[20,21,22,23,26,27,28,29,30,31,32,33,34,35,36,37,38,39,40,41,42,43,44,45,5]⟩,⟨6,true,false,[20,21,22,23,27,28,29,30,31,32,33,34,35,36,37,38,39,40,41,42,43,44,45,5]⟩,⟨7,true,false,[20,21,22,23,28,29,30,31,32,33,34,35,36,37,38,39,40,41,42,43,44,45,5]⟩,⟨8,false,false,[]⟩,⟨9,false,false,[]⟩,⟨10,false,false,[]⟩,⟨11,true,false,[20,21,22,23,24,25,26,27,28,29,32,33,34,35,36,37,38,39,40,41,42,43,44,45,5]⟩,⟨12,true,false,[20,21,22,23,24,25,26,27,28,29,33,34,35,36,37,38,39,40,41,42,43,44,45,5]⟩,⟨13,false,false,[]⟩,⟨14,true,false,[20,21,22,23,24,25,26,27,28,29,30,31,32,35,36,37,38,39,40,41,42,43,44,45,5]⟩,⟨15,true,false,[20,21,22,23,24,25,26,27,28,29,30,31,32,36,37,38,39,40,41,42,43,44,45,5]⟩,⟨16,false,false,[]⟩,⟨17,true,false,[20,21,22,23,24,25,26,27,28,29,30,31,32,33,34,35,38,39,40,41,42,43,44,45,5]⟩,⟨18,true,false,[20,21,22,23,24,25,26,27,28,29,30,31,32,33,34,35,39,40,41,42,43,44,45,5]⟩,⟨19,false,false,[]⟩,⟨20,true,false,[20,21,22,23,24,25,26,27,28,29,30,31,32,33,34,35,36,37,38,41,42,43,44,45,5]⟩,⟨21,true,false,[20,21,22,23,24,25,26,27,28,29,30,31,32,33,34,35,36,37,38,42,43,44,45,5]⟩,⟨22,false,false,[]⟩,⟨23,true,false,[20,21,22,23,24,25,26,27,28,29,30,31,32,33,34,35,36,37,38,39,40,41,44,45,5]⟩,⟨24,true,false,[20,21,22,23,24,25,26,27,28,29,30,31,32,33,34,35,36,37,38,39,40,41,45,5]⟩,⟨25,true,false,[5]⟩,⟨26,true,false,[20,21,22,23,24,25,26,27,28,29,30,31,32,33,34,35,36,37,38,39,40,41,42,43,44,45]⟩,⟨27,true,true,[]⟩] (by kernel_rfl) ?_
  refine gg ?_
  simp only[dw,dc,List.map_cons,List.map_nil,List.nil_append,List.cons_append]
  rw[hy,show t.bytes.getD (Int.toNat 2) 0=u8 t.m from rfl,show t.bytes.getD (Int.toNat 3) 0=u8 t.d from rfl,show t.bytes.getD (Int.toNat 4) 0=u8 t.h from rfl,show t.bytes.getD (Int.toNat 5) 0=u8 t.mi from rfl,show t.bytes.getD (Int.toNat 6) 0=u8 t.s from rfl,hu _ b1 b2,hu _ c1 c2,hu _ d1 d2,hu _ e1 e2,hu _ f1 f2]
  refine gg ?_
  conv=>whnf
  rcases hr with hz | hR
  ·refine And.intro (fun h=> ?_) (fun h=> ?_)
   ·subst hz
    exact absurd h (by decide)
   ·have hG:(!eK [Value.int .u16 t.y,.int .u8 t.m,.int .u8 t.d,.int .u8 t.h,.int .u8 t.mi,.int .u8 t.s] [Value.int .u16 0,.int .u8 0,.int .u8 0,.int .u8 0,.int .u8 0,.int .u8 0])=false:=by subst hz;rfl
    rw[hG]
    refine gg ?_
    exact⟨_,rfl,rfl⟩
  ·have Vi:1900≤t.y:=by
     unfold Tm.right at hR
     simp only[Bool.and_eq_true,decide_eq_true_eq] at hR
     omega
   have hG:(!eK [Value.int .u16 t.y,.int .u8 t.m,.int .u8 t.d,.int .u8 t.h,.int .u8 t.mi,.int .u8 t.s] [Value.int .u16 0,.int .u8 0,.int .u8 0,.int .u8 0,.int .u8 0,.int .u8 0])=true:=by
    have:decide (t.y=0)=false:=decide_eq_false (by omega)
    simp[eK,lW,this]
   refine And.intro (fun h=>And.intro ⟨trivial,h,trivial⟩ ?_) (fun h=>absurd hG h)
   refine aY (Jw t ho) Tryz.call149 (hon:=⟨⟨trivial,trivial,trivial,trivial,trivial,trivial,trivial⟩,trivial⟩) [] ?_
   rw[hR,hG]
   refine gg ?_
   exact⟨_,rfl,rfl⟩
theorem RB(t:Tm)(ht:t.ok):Spec Tryz.prog 186 [.agg t.cells] [] (ak (.own 7 15 1 0 16) [] [(7,⟨15,.bytes t.bytes⟩)]):=by
 obtain⟨⟨a1,a2⟩,⟨b1,b2⟩,⟨c1,c2⟩,⟨d1,d2⟩,⟨e1,e2⟩,f1,f2⟩:=ht
 refine ax ai Tryz.func186 rfl Tryz.ntmps186 Tryz.results186 ?_
 refine aE ?_
 have ey:t.y%18446744073709551616=t.y:=by omega
 rw[ey]
 refine af (Jt t.y (by omega) 2 (by omega)) Tryz.call185 0 [0,0,0,0,0,0,0,0,0,7] [0,0,0,0,0,0,0,0,0,1] [9] ?_
 refine aE ?_
 conv=>whnf
 refine⟨[u8 t.m,u8 t.d,u8 t.h,u8 t.mi,u8 t.s],?_⟩
 conv=>whnf
 have jx:=ec 2 t.y
 refine And.intro ⟨rfl,⟨rfl,rfl,Nat.le_of_ble_eq_true rfl⟩,rfl,rfl,rfl,rfl,rfl,rfl,Nat.le_of_ble_eq_true rfl,by decide⟩ ?_
 refine aE ?_
 have h7:(bz (Int.toNat 2) t.y).length+5=7:=by show(bz 2 t.y).length+5=7;rw[jx]
 rw[h7]
 refine cE (fun i:Nat=>i≤9) (fun i=>9 - i) 0 [3,21,22,23,24,25,26] (fun i=>[(3,.own 7 (6+i) 1 0 (7+i))])
  (fun i=>[(7,⟨6+i,.bytes (bz 2 t.y++[u8 t.m,u8 t.d,u8 t.h,u8 t.mi,u8 t.s]++List.replicate i 0)⟩)]) 0 (Nat.zero_le _) ?_ ?_ ?_
 ·exact no_implicit_lambda%ten
 ·exact no_implicit_lambda%b6
 rintro i v i1
 refine cF ?_
 refine aE ?_
 refine⟨fun h=> ?_,fun h=> ?_⟩
 ·have h9:i<9:=by have:=of_decide_eq_true h;omega
  refine aE ?_
  conv=>whnf
  refine⟨[0],?_⟩
  conv=>whnf
  have lh:(bz 2 t.y++[u8 t.m,u8 t.d,u8 t.h,u8 t.mi,u8 t.s]++List.replicate i 0).length=7+i:=by simp only[List.length_append,jx,List.length_replicate,List.length_cons,List.length_nil]
  refine And.intro ⟨rfl,⟨rfl,rfl,Nat.le_refl _⟩,rfl,rfl,rfl,lh.symm,rfl,rfl,by rw[lh];show(7+i+1)*1≤_;omega,by decide⟩ ?_
  rw[lh]
  have RC:bz 2 t.y++[u8 t.m,u8 t.d,u8 t.h,u8 t.mi,u8 t.s]++List.replicate i 0++[0]=bz 2 t.y++[u8 t.m,u8 t.d,u8 t.h,u8 t.mi,u8 t.s]++List.replicate (i+1) 0:=by
   rw[List.append_assoc,List.replicate_succ']
  rw[RC]
  refine aE ?_
  refine(id ?_:kR 1 _ Ex.normal _)
  unfold kR
  dsimp only
  exact bk (i+1) (by show i+1≤9;omega) (by show 9 - (i+1)<9 - i;omega)
 ·have h9:i=9:=by have:=of_decide_eq_false h;omega
  subst h9
  refine aE ?_
  exact⟨_,rfl,rfl,rfl,trivial⟩
theorem RD(t:Tm)(ht:t.ok):Spec Tryz.prog 186 [.agg t.cells] [] (ak (.bs 0 t.bytes) [] []):=
 ix (RB t ht) (by simp[eM]) (AF.own rfl (by simp[Tm.bytes,ec])) trivial
end Go.Proofs.YtpbpiehcchannaaGreatDoor
