/- A variable, and the walks of vname.Split, keep.read, keep.Need. A step that loads out of an object under a guard. Conditions: the premises of each law. -/
import Derived.Test.YtpbpiehcchannaaGreatDoorJKg
import Derived.Test.YtpbpiehcchannaaGreatDoorJGp
namespace Go.Proofs.YtpbpiehcchannaaGreatDoor
set_option linter.unusedVariables false
set_option linter.unusedSimpArgs false
set_option maxRecDepth 100000
set_option maxHeartbeats 1500000
open Go.RowKit
structure aU where
 nm:ByteArray
 g:List UInt8
 at_:Int
 t:Tm
 ow:List UInt8
 d:List UInt8
structure aU.Ok(v:aU):Prop where
 nm:v.nm.size≤140737488355328
 g:v.g.length=16
 at_:0≤v.at_∧v.at_≤4294967295
 t:v.t.ok
 ow:v.ow.length=32
 d:v.d.length≤140737488355328
def aV(x:AV)(v:aU):List AV:=[.val (.string v.nm),.val (bv (v.g.getD 0 0)),.val (bv (v.g.getD 1 0)),.val (bv (v.g.getD 2 0)),.val (bv (v.g.getD 3 0)),.val (bv (v.g.getD 4 0)),.val (bv (v.g.getD 5 0)),.val (bv (v.g.getD 6 0)),.val (bv (v.g.getD 7 0)),.val (bv (v.g.getD 8 0)),.val (bv (v.g.getD 9 0)),.val (bv (v.g.getD 10 0)),.val (bv (v.g.getD 11 0)),.val (bv (v.g.getD 12 0)),.val (bv (v.g.getD 13 0)),.val (bv (v.g.getD 14 0)),.val (bv (v.g.getD 15 0)),.val (.int .u32 v.at_),.val (.int .u16 v.t.y),.val (.int .u8 v.t.m),.val (.int .u8 v.t.d),.val (.int .u8 v.t.h),.val (.int .u8 v.t.mi),.val (.int .u8 v.t.s),.val (bv (v.ow.getD 0 0)),.val (bv (v.ow.getD 1 0)),.val (bv (v.ow.getD 2 0)),.val (bv (v.ow.getD 3 0)),.val (bv (v.ow.getD 4 0)),.val (bv (v.ow.getD 5 0)),.val (bv (v.ow.getD 6 0)),.val (bv (v.ow.getD 7 0)),.val (bv (v.ow.getD 8 0)),.val (bv (v.ow.getD 9 0)),.val (bv (v.ow.getD 10 0)),.val (bv (v.ow.getD 11 0)),.val (bv (v.ow.getD 12 0)),.val (bv (v.ow.getD 13 0)),.val (bv (v.ow.getD 14 0)),.val (bv (v.ow.getD 15 0)),.val (bv (v.ow.getD 16 0)),.val (bv (v.ow.getD 17 0)),.val (bv (v.ow.getD 18 0)),.val (bv (v.ow.getD 19 0)),.val (bv (v.ow.getD 20 0)),.val (bv (v.ow.getD 21 0)),.val (bv (v.ow.getD 22 0)),.val (bv (v.ow.getD 23 0)),.val (bv (v.ow.getD 24 0)),.val (bv (v.ow.getD 25 0)),.val (bv (v.ow.getD 26 0)),.val (bv (v.ow.getD 27 0)),.val (bv (v.ow.getD 28 0)),.val (bv (v.ow.getD 29 0)),.val (bv (v.ow.getD 30 0)),.val (bv (v.ow.getD 31 0)),x]
def bh(v:aU):List UInt8:=bz 4 v.at_++v.t.bytes++v.ow++v.d
theorem IZ (key : List UInt8) (hk : key.length ≤ 140737488355328) (z : Nat) (h : key.length < 16) : Spec Tryz.prog 145 [.bs z key] []
   (bZ (.aD [.val (.string ByteArray.empty),.agg (bC 16 []),.val (.bool false)]) []):=by
 refine ax ai Tryz.func145 rfl Tryz.ntmps145 Tryz.results145 ?_
 refine gg ?_
 exact⟨_,rfl,rfl⟩
theorem I0 (key : List UInt8) (hk : key.length ≤ 140737488355328) (z : Nat) (h : 16 ≤ key.length) (hr : bM (strOf (key.drop 16)) = false) : Spec Tryz.prog 145 [.bs z key] []
   (bZ (.aD [.val (.string ByteArray.empty),.agg (bC 16 []),.val (.bool false)]) []):=by
 refine ax ai Tryz.func145 rfl Tryz.ntmps145 Tryz.results145 ?_
 refine gg ?_
 rw[show(key.take (key.length:Int).toNat).drop (16:Int).toNat=key.drop 16 by simp]
 refine aY (yF (strOf (key.drop 16)) (by rw[sU,List.length_drop];omega)) Tryz.call141 [] ?_
 rw[hr]
 refine gg ?_
 exact⟨_,rfl,rfl⟩
theorem I1 (nm : ByteArray) (hn : nm.size ≤ 140737488355328) (hr : bM nm = true) (g : List UInt8) (hg : g.length = 16) (z : Nat) : Spec Tryz.prog 145 [.bs z (g ++ nm.data.toList)] []
   (bZ (.aD [.val (.string nm),.agg (bC 16 g),.val (.bool true)]) []):=by
 obtain⟨key,dz⟩:∃key,key=g++nm.data.toList:=⟨_,rfl⟩
 have hd:strOf (key.drop 16)=nm:=by rw[dz,List.drop_left' hg,lQ]
 have ht:(key.take (16:Int).toNat).drop (0:Int).toNat=g:=by rw[dz];exact(List.drop_zero).trans (List.take_left' hg)
 have hl:key.length=16+nm.size:=by rw[dz,List.length_append,hg];simp
 have hR:=yF nm hn
 rw[hr] at hR
 rw[←dz]
 refine ax ai Tryz.func145 rfl Tryz.ntmps145 Tryz.results145 ?_
 refine gg ?_
 rw[show(key.take (key.length:Int).toNat).drop (16:Int).toNat=key.drop 16 by simp,hd]
 refine aY (hR) Tryz.call141 [] ?_
 refine gg ?_
 refine bL (p:=0) ai hm [0,0,2,6,14,1,63,127] [⟨0,false,false,[]⟩,⟨1,false,false,[]⟩,⟨2,true,false,[17,20,21,2,4]⟩,⟨3,true,false,[17,21,2,4]⟩,⟨4,true,false,[17,2,4]⟩,⟨5,false,false,[]⟩,⟨6,true,true,[4]⟩,⟨7,false,false,[]⟩] (by kernel_rfl) ?_
 refine gg ?_
 conv=>whnf
 refine And.intro ⟨by decide,by rw[ht,hg];exact Nat.le_refl _⟩ ?_
 rw[ht]
 refine gg ?_
 exact⟨_,rfl,rfl⟩
theorem QF(nm:ByteArray)(hn:nm.size≤140737488355328)(d:Int)(hd:0≤d∧d≤140737488355328):Spec Tryz.prog 56 [.val (.string nm),.val (.int .i64 d)] [] (bZ (.val (.int .i64 (12+(16+nm.size)+(52+d)))) []):=by
 refine ax ai Tryz.func56 rfl Tryz.ntmps56 Tryz.results56 ?_
 refine gg ?_
 refine aY (qN (16+(nm.size:Int)) (52+d) (by omega) (by omega)) Tryz.call78 [] ?_
 refine gg ?_
 exact⟨_,rfl,rfl⟩
theorem I2{α:Type 1}(f:UInt8→α)(n:Nat)(l:List UInt8)(h:l.length=n):l.map f=(List.range n).map fun i=>f (l.getD i 0):=by
 apply List.ext_getElem
 ·simp[h]
 ·intro i h1 h2
  simp only[List.length_map] at h1
  simp[List.getD_eq_getElem?_getD,h1]
theorem QG(y:Int)(hy:0≤y∧y≤4294967295):(dG (bz 4 y):Int)=y:=by
 obtain⟨m,rfl⟩:∃m:Nat,y=(m:Int):=⟨y.toNat,by omega⟩
 rw[vH]
 omega
theorem QH (v : aU) (hv : v.Ok) (tc : v.d.length ≤ 1000000) (ht : v.t.pN) (z : Nat) : Spec Tryz.prog 98 [.val (.string v.nm), .agg (bC 16 v.g), .bs z (bh v)] []
   (ak (.aD [.agg (aV (.own 38 3 1 0 v.d.length) v),.val (.int .i64 0)]) [] [(38,⟨3,.bytes v.d⟩)]):=by
 obtain⟨I3,hg,ha,_,how,hd⟩:=hv
 have hT:v.t.bytes.length=16:=by simp[Tm.bytes,ec]
 have kj:=ec 4 v.at_
 have hlen:(bh v).length=52+v.d.length:=by unfold bh;simp only[List.length_append,hT,kj,how]
 have e4:(bh v).take 4=bz 4 v.at_:=by unfold bh;rw[List.append_assoc,List.append_assoc];exact List.take_left' kj
 have Dt:((bh v).take 20).drop 4=v.t.bytes:=by
  unfold bh
  rw[List.append_assoc,List.append_assoc,←List.append_assoc,List.take_left' (by rw[List.length_append,hT,kj]),List.drop_left' kj]
 have eo:((bh v).drop 20)=v.ow++v.d:=by
  unfold bh
  rw[List.append_assoc,List.drop_left' (by rw[List.length_append,hT,kj])]
 have ed:(bh v).drop 52=v.d:=by
  unfold bh
  rw[List.drop_left' (by rw[List.length_append,List.length_append,hT,kj,how])]
 refine ax ai Tryz.func98 rfl Tryz.ntmps98 Tryz.results98 ?_
 refine gg ?_
 rw[hlen]
 refine gg ?_
 refine aY (B7 (bh v) (by omega) z 0 4 (by unfold aX;omega) (by unfold aX;omega) _ rfl) Tryz.call142 [] ?_
 rw[if_pos ⟨by decide,by decide,by decide,by rw[hlen];omega⟩,show List.take (Int.toNat 4) (List.drop (Int.toNat 0) (bh v))=bz 4 v.at_ from e4,QG _ ha]
 refine gg ?_
 rw[show List.drop (Int.toNat 4) (List.take (Int.toNat 20) (bh v))=v.t.bytes from Dt]
 refine aY (QD v.t ht z) Tryz.call143 (hX:=⟨⟨trivial,trivial,trivial,trivial,trivial,trivial,trivial⟩,trivial,trivial⟩) [] ?_
 refine gg ?_
 refine bL (p:=0) ai hm [0,0,0,4,0,0,32,96,255,0,1023] [⟨0,false,false,[]⟩,⟨1,true,false,[31,33,34,35,36,37,38,39,12]⟩,⟨2,false,false,[]⟩,⟨3,true,false,[31,32,35,36,37,38,39,12]⟩,⟨4,true,false,[31,32,33,34,36,37,38,39,12]⟩,⟨5,false,false,[]⟩,⟨6,true,false,[31,32,33,34,35,38,39,12]⟩,⟨9,true,false,[31,32,33,34,35,36,37,38,39]⟩,⟨7,true,false,[31,32,33,34,35,39,12]⟩,⟨8,true,false,[12]⟩,⟨10,true,true,[]⟩] (by kernel_rfl) ?_
 refine gg ?_
 rw[show List.drop (Int.toNat 52) (List.take (Int.toNat ((bh v).length:Int)) (bh v))=v.d by rw[Int.toNat_natCast,List.take_length];exact ed]
 refine af (yb v.d (by omega) z) Tryz.call65 0 [0,0,0,0,0,38] [0,0,0,0,0,1] [5] ?_
 refine gg ?_
 simp only[dw,dc,List.map_cons,List.map_nil,List.nil_append,List.cons_append,List.append_eq,Tm.cells,bC,List.range,List.range.loop,Nat.reduceAdd,List.length_cons,List.length_nil]
 refine bL (p:=0) ai hm [0,1,0,4,15] [⟨0,true,false,[41,42,43,44]⟩,⟨1,true,false,[42,43,44]⟩,⟨2,false,false,[]⟩,⟨3,true,false,[40,41,44]⟩,⟨4,true,true,[]⟩] (by kernel_rfl) ?_
 refine gg ?_
 obtain⟨X,hX⟩:∃X,X=v.ow++v.d:=⟨_,rfl⟩
 have I4:min 32 X.length=32:=by rw[hX,List.length_append,how];omega
 have Hr:X.take 32=v.ow:=by rw[hX];exact List.take_left' how
 rw[show List.drop (Int.toNat 20) (List.take (Int.toNat ((bh v).length:Int)) (bh v))=X by rw[Int.toNat_natCast,List.take_length,hX];exact eo]
 conv=>whnf
 rw[show((32:Nat):Int).toNat - Int.toNat 0=32 from rfl]
 refine And.intro ⟨⟨rfl,rfl,Nat.le_of_ble_eq_true rfl,rfl,by rw[I4];decide⟩,trivial⟩ ?_
 rw[I4,Hr,I2 _ 32 v.ow how,show v.at_%4294967296=v.at_ by omega]
 refine gg ?_
 exact⟨_,rfl,rfl,rfl,trivial⟩
theorem Du(b:UInt8):((b.toNat:Nat):Int)≤255:=by have:=b.toNat_lt;omega
theorem QI{X A B:Prop}(k:B)(hX:(A∧B)→X:=by(intro h;(conv=>whnf);(try dsimp only[bc,aJ,aM,bu,dO,bF,bb,eF,rZ,dg,cL,eY,eU,dw,dc,bJ,cm,bU,dy,rl,rl.cw,eu,o3,ng,db,nk,c9,Nat.add_zero,List.map_cons,List.map_nil,List.cons_append,List.nil_append,List.append_eq,List.length_cons,List.length_nil,Nat.reduceAdd,Nat.reduceSub,Nat.reduceMul,Nat.zero_add,oP]);(with_reducible exact h)))(hA:A:=by(first | trivial | exact⟨.inl rfl,trivial⟩ | exact⟨.inr (fun h=>nomatch h),trivial⟩ | exact⟨.inr rfl,trivial⟩ | exact⟨.inr rfl,.inr rfl,trivial⟩ | exact⟨.inr rfl,.inr rfl,.inr rfl,trivial⟩ | exact⟨.inr (fun h=>nomatch h),.inr (fun h=>nomatch h),trivial⟩ | exact⟨.inr (fun h=>nomatch h),.inr (fun h=>nomatch h),.inr (fun h=>nomatch h),trivial⟩ | exact⟨.inr (fun h=>nomatch h),.inr (fun h=>nomatch h),.inr (fun h=>nomatch h),.inr (fun h=>nomatch h),trivial⟩ | exact⟨.inr (fun h=>nomatch h),.inr (fun h=>nomatch h),.inr (fun h=>nomatch h),.inr (fun h=>nomatch h),.inr (fun h=>nomatch h),trivial⟩ | ((try dsimp only[dV,dP,iX,aR,bF,bb,List.toList_toArray,List.map_cons,List.map_nil,List.cons_append,List.nil_append,eU,eY,dw,dc,jT,tF,hJ]);first | trivial | (simp;done) | ((repeat' apply And.intro)<;>first | exact rfl | exact trivial | exact Nat.le_of_ble_eq_true rfl | omega) | (simp only[dD,aX,nn,IntKind.bits,FL,FM,FN,FO,Bool.and_eq_true,Bool.or_eq_true,Bool.not_eq_true',decide_eq_true_eq,decide_eq_false_iff_not,eq_self,true_and,and_true,and_self,imp_self,implies_true] at* <;>omega) | (intro hG;(with_reducible refine And.intro ?_ ?_)<;>first | (simp[dV,dP,iX,hG];done) | (simp[dV,dP,iX];done) | ((repeat' apply And.intro)<;>first | exact rfl | exact trivial | assumption | exact Int.natCast_nonneg _ | exact Du _ | (refine of_decide_eq_true ?_;exact rfl) | exact Nat.le_of_ble_eq_true rfl | omega) | ((try simp only[dD,aX,eq_self,true_and,and_true,and_self] at*);omega))))):X:=hX ⟨hA,k⟩
theorem aE{X Y:Prop}(k:Y)(hX:Wr Y→X:=by(intro h;(repeat (first | refine QI ?_ | refine fun(_:_=false)=> ?_ | refine⟨fun(_:true=true)=> ?_,fun h=>absurd h (by decide)⟩ | refine gtr ?_));(with_reducible exact h.o))):X:=hX ⟨k⟩
end Go.Proofs.YtpbpiehcchannaaGreatDoor
