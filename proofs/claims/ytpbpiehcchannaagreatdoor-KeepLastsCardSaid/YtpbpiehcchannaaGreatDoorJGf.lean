/- Walks of flash: the device's writing. Walks of bytes.Repeat of one byte. Walks of flash: New. Walks of lintellaw07: Same, twin. Walks of flash: Erase$1. Walks of flash: Erase$2. Walks of flash: write with Erase$2. Walks of flash: Sectors, Arm, On, Dead, Writes. Walks of flash: Erase. Walks of flash: slices.Clone, Image. Walks of flash: Program. The flash as a record, and what each call makes of it. Conditions: the premises of each law. -/
import Derived.Test.YtpbpiehcchannaaGreatDoorJAw
namespace Go.Proofs.YtpbpiehcchannaaGreatDoor
set_option linter.unusedVariables false
set_option linter.unusedSimpArgs false
set_option maxRecDepth 100000
set_option maxHeartbeats 1500000
open Go.RowKit
theorem hm:Tryz.prog.follows .mixedOrders=true:=by kernel_rfl
theorem G6 (i a : Int) (b : UInt8) (hi : aX i) (ha : aX a) (l : List UInt8) (hl : l.length ≤ 140737488355328) (h1 : 0 ≤ a) (h2 : 0 ≤ i) (h3 : a + i < l.length) (v0 v1 v2 v3 v4 v5 : Nat) (a1 a2 a3 a5 : Int) (a4 : Bool) : Spec Tryz.prog 205 [.ref 0 v0 1 0 0, .ref 1 v1 1 0 0, .ref 2 v2 1 0 0, .ref 3 v3 1 0 0]
   [⟨v0,.obj [.ref 4 v4 6 0 0]⟩,⟨v1,.obj [.val (.int .i64 a)]⟩,⟨v2,.obj [.val (.int .i64 i)]⟩,⟨v3,.obj [.val (.int .u8 b.toNat)]⟩,⟨v4,.obj [.own 5 v5 1 0 l.length,.val (.int .i64 a1),.val (.int .i64 a2),.val (.int .i64 a3),.val (.bool a4),.val (.int .i64 a5)]⟩,⟨v5,.bytes l⟩]
   (bZ (.aD []) [⟨v0,.obj [.ref 4 v4 6 0 0]⟩,⟨v1,.obj [.val (.int .i64 a)]⟩,⟨v2,.obj [.val (.int .i64 i)]⟩,⟨v3,.obj [.val (.int .u8 b.toNat)]⟩,⟨v4,.obj [.own 5 v5 1 0 l.length,.val (.int .i64 a1),.val (.int .i64 a2),.val (.int .i64 a3),.val (.bool a4),.val (.int .i64 a5)]⟩,⟨v5,.bytes (l.set (a+i).toNat (l.getD (a+i).toNat 0&&&b))⟩]):=by
 refine ax ai Tryz.func205 rfl Tryz.ntmps205 Tryz.results205 ?_
 conv=>whnf
 refine bL (p:=6) ai hm [0,1,3,7,0,0,48,127,255,0,1023,2047,4095] [⟨0,true,false,[5,6,7,8,9,10,11,12,13,14,15]⟩,⟨1,true,false,[6,7,8,9,10,11,12,13,14,15]⟩,⟨2,true,false,[7,8,9,10,11,12,13,14,15]⟩,⟨3,true,false,[8,9,10,11,12,13,14,15]⟩,⟨4,true,false,[4,5,6,7,9,10,11,12,13,14,15]⟩,⟨5,true,false,[4,5,6,7,8,10,11,12,13,14,15]⟩,⟨6,false,false,[]⟩,⟨7,true,false,[12,13,14,15]⟩,⟨8,true,false,[13,14,15]⟩,⟨9,true,false,[4,5,6,7,8,9,10,11,12,14,15]⟩,⟨10,false,false,[]⟩,⟨11,true,false,[]⟩,⟨12,true,true,[]⟩] (by kernel_rfl) ?_
 repeat (refine bD ?_)
 rw[u8_and,Nat.zero_add]
 exact⟨_,rfl,rfl⟩
theorem NQ (i a : Int) (b : UInt8) (hi : aX i) (ha : aX a) (l : List UInt8) (hl : l.length ≤ 140737488355328) (h1 : 0 ≤ a) (h2 : 0 ≤ i) (h3 : a + i < l.length) (v0 v1 v2 v3 v4 v5 : Nat) (a1 a2 a3 a5 : Int) (a4 : Bool) (kb : aX a2) (kc : 0 ≤ a5 ∧ a5 < 9223372036854775807) (d : Bool) (hd : d = if 0 < a2 then decide (a2 - 1 = 0) else a4) : Spec Tryz.prog 190 [.ref 4 v4 6 0 0, .clo 205 [.ref 0 v0 1 0 0, .ref 1 v1 1 0 0, .ref 2 v2 1 0 0, .ref 3 v3 1 0 0]]
   [⟨v0,.obj [.ref 4 v4 6 0 0]⟩,⟨v1,.obj [.val (.int .i64 a)]⟩,⟨v2,.obj [.val (.int .i64 i)]⟩,⟨v3,.obj [.val (.int .u8 b.toNat)]⟩,⟨v4,.obj [.own 5 v5 1 0 l.length,.val (.int .i64 a1),.val (.int .i64 a2),.val (.int .i64 a3),.val (.bool a4),.val (.int .i64 a5)]⟩,⟨v5,.bytes l⟩]
   (bZ (.val (.int .i64 (if d then 6 else 0))) [⟨v0,.obj [.ref 4 v4 6 0 0]⟩,⟨v1,.obj [.val (.int .i64 a)]⟩,⟨v2,.obj [.val (.int .i64 i)]⟩,⟨v3,.obj [.val (.int .u8 b.toNat)]⟩,⟨v4,.obj [.own 5 v5 1 0 l.length,.val (.int .i64 a1),.val (.int .i64 (if 0<a2 then a2 - 1 else a2)),.val (.int .i64 a3),.val (.bool d),.val (.int .i64 (if d then a5 else a5+1))]⟩,⟨v5,.bytes (if d then l else l.set (a+i).toNat (l.getD (a+i).toNat 0&&&b))⟩]):=by
 refine ax ai Tryz.func190 rfl Tryz.ntmps190 Tryz.results190 ?_
 repeat (refine bD ?_)
 refine⟨fun h=> ?_,fun h=> ?_⟩
 ·repeat (refine bD ?_)
  have e1:0<a2:=of_decide_eq_true h
  refine⟨fun h'=> ?_,fun h'=> ?_⟩
  ·have e3:d=true:=by rw[hd,if_pos e1];exact h'
   repeat (refine bD ?_)
   simp only[e3,e1,h',↓reduceIte]
   exact⟨_,rfl,rfl⟩
  ·have e3:d=false:=by rw[hd,if_pos e1];exact h'
   repeat (refine bD ?_)
   refine kY (G6 i a b hi ha l hl h1 h2 h3 v0 v1 v2 v3 v4 v5 a1 (a2 - 1) a3 a5 (decide (a2 - 1=0))) Tryz.call205 [0,1,2,3,4,5] rfl rfl (by decide) rfl ?_ ?_ ?_ ?_ ?_
   ·exact cx
   ·exact cx
   ·exact cx
   ·exact cx
   ·repeat (refine bD ?_)
    simp only[e3,e1,h',↓reduceIte,Bool.false_eq_true]
    exact⟨_,rfl,rfl⟩
 ·have e1:¬0<a2:=of_decide_eq_false h
  repeat (refine bD ?_)
  refine⟨fun h'=> ?_,fun h'=> ?_⟩
  ·have e3:d=true:=by rw[hd,if_neg e1];exact h'
   repeat (refine bD ?_)
   simp only[e3,e1,h',↓reduceIte]
   exact⟨_,rfl,rfl⟩
  ·have e3:d=false:=by rw[hd,if_neg e1];exact h'
   repeat (refine bD ?_)
   refine kY (G6 i a b hi ha l hl h1 h2 h3 v0 v1 v2 v3 v4 v5 a1 a2 a3 a5 a4) Tryz.call205 [0,1,2,3,4,5] rfl rfl (by decide) rfl ?_ ?_ ?_ ?_ ?_
   ·exact cx
   ·exact cx
   ·exact cx
   ·exact cx
   ·repeat (refine bD ?_)
    simp only[e3,e1,h',↓reduceIte,Bool.false_eq_true]
    exact⟨_,rfl,rfl⟩
theorem sK (v0 v1 : Nat) (l : List UInt8) (a1 a2 a3 a5 : Int) (a4 : Bool) : Spec Tryz.prog 86 [.ref 0 v0 6 0 0] [⟨v0, .obj [.own 1 v1 1 0 l.length, .val (.int .i64 a1), .val (.int .i64 a2), .val (.int .i64 a3), .val (.bool a4), .val (.int .i64 a5)]⟩, ⟨v1, .bytes l⟩]
   (bZ (.val (.int .i64 (if a4 then 6 else 0))) [⟨v0,.obj [.own 1 v1 1 0 l.length,.val (.int .i64 a1),.val (.int .i64 a2),.val (.int .i64 a3),.val (.bool a4),.val (.int .i64 a5)]⟩,⟨v1,.bytes l⟩]):=by
 refine ax ai Tryz.func86 rfl Tryz.ntmps86 Tryz.results86 ?_
 repeat (refine bD ?_)
 intro _
 repeat (refine bD ?_)
 refine⟨fun h=> ?_,fun h=> ?_⟩
 ·subst h
  repeat (refine bD ?_)
  exact⟨_,rfl,rfl⟩
 ·subst h
  repeat (refine bD ?_)
  exact⟨_,rfl,rfl⟩
theorem Cd (i n : Int) (hi : aX i) (hn : aX n) (l : List UInt8) (hl : l.length ≤ 140737488355328) (v0 v1 : Nat) (a1 a2 a3 a5 : Int) (a4 : Bool) : Spec Tryz.prog 204 [.ref 0 v0 6 0 0, .val (.int .i64 i), .val (.int .i64 n)] [⟨v0, .obj [.own 1 v1 1 0 l.length, .val (.int .i64 a1), .val (.int .i64 a2), .val (.int .i64 a3), .val (.bool a4), .val (.int .i64 a5)]⟩, ⟨v1, .bytes l⟩]
   (bZ (.val (.bool (decide (0≤i∧0≤n∧i+n≤l.length)))) [⟨v0,.obj [.own 1 v1 1 0 l.length,.val (.int .i64 a1),.val (.int .i64 a2),.val (.int .i64 a3),.val (.bool a4),.val (.int .i64 a5)]⟩,⟨v1,.bytes l⟩]):=by
 refine ax ai Tryz.func204 rfl Tryz.ntmps204 Tryz.results204 ?_
 repeat (refine bD ?_)
 refine⟨_,congrArg AV.val (congrArg Value.bool ?_),rfl⟩
 rw[Bool.eq_iff_iff];simp;omega
theorem NR(a:Nat):a&&&4294967295=a%4294967296:=Nat.and_two_pow_sub_one_eq_mod a 32
theorem NS(n:Int)(h0:0≤n)(h1:n≤9223372036854775807):Spec Tryz.prog 169 [.val (.int .u64 1),.val (.int .u64 n)] [] (ak (.aD [.val (.int .u64 0),.val (.int .u64 n)]) [] []):=by
 refine ax ai Tryz.func169 rfl Tryz.ntmps169 Tryz.results169 ?_
 repeat (refine bD ?_)
 have e1:(2:Int)^Int.toNat 32=4294967296:=by decide
 have e2:Int.toNat 4294967295=4294967295:=rfl
 have e3:Int.toNat 1=1:=rfl
 simp only[e1,e2,e3,NR,Int.toNat_natCast]
 refine⟨_,congrArg AV.aD (congr (congrArg _ (congrArg AV.val (congrArg (Value.int .u64) ?_))) (congrArg (fun x=>[AV.val (.int .u64 x)]) ?_)),rfl,trivial⟩
 ·omega
 ·omega
theorem NU(n:Int)(h0:0≤n)(h1:n≤9223372036854775807):Spec Tryz.prog 126 [.val (.int .u64 1),.val (.int .u64 n)] [] (ak (.aD [.val (.int .u64 0),.val (.int .u64 n)]) [] []):=by
 refine ax ai Tryz.func126 rfl Tryz.ntmps126 Tryz.results126 ?_
 refine gg ?_
 refine af (NS n h0 h1) Tryz.call169 0 [] [] [] ?_
 refine gg ?_
 exact⟨_,rfl,rfl,trivial⟩
structure RS where
 bp:Nat
 c:List UInt8
def lO(n:Nat)(ch:Int)(y:RS):St:=⟨[.any,.any,.any,.any,.any,.any,.any,.val (.int .i64 n),.val (.int .i64 ch),.own 54 1 1 0 n,.val (.int .i64 y.bp),.any,.any,.any,.any,.any,.any,.any,.any,.any,.any,.any,.any,.any,.any,.any,.any,.any,.any,.any,.any,.any,.any,.any,.any,.any,.any,.any,.any,.any,.any,.any,.any,.any,.any,.any,.any,.any,.any,.any,.any,.any,.any,.any,.any,.any,.any,.any,.any,.any,.any,.any,.any,.any,.any,.any,.any,.any,.any,.any,.any,.any,.any,.any,.any,.any,.any],[⟨0,.dead⟩,⟨0,.dead⟩,⟨0,.dead⟩,⟨0,.dead⟩,⟨0,.dead⟩,⟨0,.dead⟩,⟨0,.dead⟩,⟨0,.dead⟩,⟨0,.dead⟩,⟨0,.dead⟩,⟨0,.dead⟩,⟨0,.dead⟩,⟨0,.dead⟩,⟨0,.dead⟩,⟨0,.dead⟩,⟨0,.dead⟩,⟨0,.dead⟩,⟨0,.dead⟩,⟨0,.dead⟩,⟨0,.dead⟩,⟨0,.dead⟩,⟨0,.dead⟩,⟨0,.dead⟩,⟨0,.dead⟩,⟨0,.dead⟩,⟨0,.dead⟩,⟨0,.dead⟩,⟨0,.dead⟩,⟨0,.dead⟩,⟨0,.dead⟩,⟨0,.dead⟩,⟨0,.dead⟩,⟨0,.dead⟩,⟨0,.dead⟩,⟨0,.dead⟩,⟨0,.dead⟩,⟨0,.dead⟩,⟨0,.dead⟩,⟨0,.dead⟩,⟨0,.dead⟩,⟨0,.dead⟩,⟨0,.dead⟩,⟨0,.dead⟩,⟨0,.dead⟩,⟨0,.dead⟩,⟨0,.dead⟩,⟨0,.dead⟩,⟨0,.dead⟩,⟨0,.dead⟩,⟨0,.dead⟩,⟨0,.dead⟩,⟨0,.dead⟩,⟨0,.dead⟩,⟨0,.dead⟩,⟨1,.bytes y.c⟩,⟨0,.dead⟩,⟨0,.dead⟩,⟨0,.dead⟩,⟨0,.dead⟩,⟨0,.dead⟩,⟨0,.dead⟩,⟨0,.dead⟩,⟨0,.dead⟩,⟨0,.dead⟩,⟨0,.dead⟩,⟨0,.dead⟩,⟨0,.dead⟩,⟨0,.dead⟩,⟨0,.dead⟩,⟨0,.dead⟩,⟨0,.dead⟩,⟨0,.dead⟩,⟨0,.dead⟩,⟨0,.dead⟩,⟨0,.dead⟩,⟨0,.dead⟩,⟨0,.dead⟩]⟩
theorem NV(z:Nat)(b:UInt8)(n:Nat)(h0:0<n)(h1:n≤4194304):Spec Tryz.prog 84 [.bs z [b],.val (.int .i64 n)] [] (ak (.own 54 1 1 0 n) [] [(54,⟨1,.bytes (List.replicate n b)⟩)]):=by
 refine ax ai Tryz.func84 rfl Tryz.ntmps84 Tryz.results84 ?_
 refine gg ?_
 have hn:(n:Int)%18446744073709551616=n:=by omega
 rw[hn]
 refine af (NU n (by omega) (by omega)) Tryz.call126 0 [] [] [] ?_
 refine gg ?_
 refine And.intro (fun gA=> ?_) (fun gA=> ?_)
 ·refine gg ?_
  refine F6 Tryz.func127 (by kernel_rfl) (by kernel_rfl) (by kernel_rfl) (ps:= #[3]) (t:=23) (e:=5) (by kernel_rfl) Tryz.underlying23 n (by omega) rfl 54 (en:=⟨0,.dead⟩) rfl ?_
  intro c0 fW
  refine gg ?_
  (refine aH ?_)
  (refine aH ?_)
  have mT:min n 1=1:=by omega
  refine uM (σ:={y:RS//y.c.length=n∧1≤y.bp∧y.bp≤n∧y.c.take y.bp=List.replicate y.bp b}) (fun y=>lO n (8192) y.1) (fun y=>n - y.1.bp) ⟨⟨1,b::c0.drop 1⟩,by simp;omega,Nat.le_refl _,h0,rfl⟩ ?_ ?_ ?_
  ·simp[lO,jZ,bc,aJ,aM,bu,dO,bF,bb,eF,dg,cL,mT]
  ·simp[lO,jw,bc,aJ,aM,bu,dO,bF,bb,eF,dg,cL,mT]
  ·rintro⟨⟨bp,c⟩,i1,i2,i3,i4⟩
   simp only at i1 i2 i3 i4
   dsimp only[lO]
   repeat (refine bD ?_)
   refine And.intro (fun h=> ?_) (fun h=> ?_)
   ·have ah:bp<n:=by have:=of_decide_eq_true h;omega
    refine gg ?_
    refine bL (p:=0) ai hm [0,0,0,6,0,0,48,126,255,511] [⟨0,false,false,[]⟩,⟨1,false,false,[]⟩,⟨2,false,false,[]⟩,⟨3,true,false,[67,71,72,73,74,75,10]⟩,⟨4,false,false,[]⟩,⟨5,false,false,[]⟩,⟨6,true,false,[67,68,69,70,74,75,10]⟩,⟨7,true,true,[67,75,10]⟩,⟨8,false,false,[]⟩,⟨9,false,false,[]⟩] (by kernel_rfl) ?_
    refine gg ?_
    (refine aH ?_)
    obtain⟨M,hM⟩:∃M,M=(min (bp:Int) (8192)).toNat:=⟨_,rfl⟩
    obtain⟨k,hk⟩:∃k,k=min (n - bp) M:=⟨_,rfl⟩
    have NX:1≤M∧M≤bp:=by omega
    have e1:(c.take M).take k=List.replicate k b:=by
     rw[List.take_take,show min k M=min k bp by omega,←List.take_take,i4,List.take_replicate,show min k bp=k by omega]
    refine⟨⟨⟨bp+k,c.take bp++((c.take M).take k++c.drop (bp+k))⟩,?_,?_,?_,?_⟩,r9 ?_ ?_,?_⟩
    ·simp;omega
    ·simp only;omega
    ·simp only;omega
    ·simp only
     rw[i4,e1,←List.append_assoc,List.replicate_append_replicate]
     exact List.take_left' (by simp)
    ·have qO:min M c.length=M:=by omega
     simp[lO,jZ,bc,aJ,aM,bu,dO,bF,bb,eF,dg,cL,←hM,qO,←hk]
    ·have qO:min M c.length=M:=by omega
     simp[lO,jw,bc,aJ,aM,bu,dO,bF,bb,eF,dg,cL,←hM,qO,←hk]
    ·show n - (bp+k)<n - bp
     omega
   ·have:bp=n:=by have:=of_decide_eq_false h;omega
    subst this
    refine gg ?_
    rw[List.take_of_length_le (by omega)] at i4
    rw[i4]
    exact⟨_,rfl,rfl,rfl,trivial⟩
 ·refine gg ?_
  refine F6 Tryz.func127 (by kernel_rfl) (by kernel_rfl) (by kernel_rfl) (ps:= #[3]) (t:=23) (e:=5) (by kernel_rfl) Tryz.underlying23 n (by omega) rfl 54 (en:=⟨0,.dead⟩) rfl ?_
  intro c0 fW
  refine gg ?_
  (refine aH ?_)
  (refine aH ?_)
  have mT:min n 1=1:=by omega
  refine uM (σ:={y:RS//y.c.length=n∧1≤y.bp∧y.bp≤n∧y.c.take y.bp=List.replicate y.bp b}) (fun y=>lO n ((n:Int)) y.1) (fun y=>n - y.1.bp) ⟨⟨1,b::c0.drop 1⟩,by simp;omega,Nat.le_refl _,h0,rfl⟩ ?_ ?_ ?_
  ·simp[lO,jZ,bc,aJ,aM,bu,dO,bF,bb,eF,dg,cL,mT]
  ·simp[lO,jw,bc,aJ,aM,bu,dO,bF,bb,eF,dg,cL,mT]
  ·rintro⟨⟨bp,c⟩,i1,i2,i3,i4⟩
   simp only at i1 i2 i3 i4
   dsimp only[lO]
   repeat (refine bD ?_)
   refine And.intro (fun h=> ?_) (fun h=> ?_)
   ·have ah:bp<n:=by have:=of_decide_eq_true h;omega
    refine gg ?_
    refine bL (p:=0) ai hm [0,0,0,6,0,0,48,126,255,511] [⟨0,false,false,[]⟩,⟨1,false,false,[]⟩,⟨2,false,false,[]⟩,⟨3,true,false,[67,71,72,73,74,75,10]⟩,⟨4,false,false,[]⟩,⟨5,false,false,[]⟩,⟨6,true,false,[67,68,69,70,74,75,10]⟩,⟨7,true,true,[67,75,10]⟩,⟨8,false,false,[]⟩,⟨9,false,false,[]⟩] (by kernel_rfl) ?_
    refine gg ?_
    (refine aH ?_)
    obtain⟨M,hM⟩:∃M,M=(min (bp:Int) ((n:Int))).toNat:=⟨_,rfl⟩
    obtain⟨k,hk⟩:∃k,k=min (n - bp) M:=⟨_,rfl⟩
    have NX:1≤M∧M≤bp:=by omega
    have e1:(c.take M).take k=List.replicate k b:=by
     rw[List.take_take,show min k M=min k bp by omega,←List.take_take,i4,List.take_replicate,show min k bp=k by omega]
    refine⟨⟨⟨bp+k,c.take bp++((c.take M).take k++c.drop (bp+k))⟩,?_,?_,?_,?_⟩,r9 ?_ ?_,?_⟩
    ·simp;omega
    ·simp only;omega
    ·simp only;omega
    ·simp only
     rw[i4,e1,←List.append_assoc,List.replicate_append_replicate]
     exact List.take_left' (by simp)
    ·have qO:min M c.length=M:=by omega
     simp[lO,jZ,bc,aJ,aM,bu,dO,bF,bb,eF,dg,cL,←hM,qO,←hk]
    ·have qO:min M c.length=M:=by omega
     simp[lO,jw,bc,aJ,aM,bu,dO,bF,bb,eF,dg,cL,←hM,qO,←hk]
    ·show n - (bp+k)<n - bp
     omega
   ·have:bp=n:=by have:=of_decide_eq_false h;omega
    subst this
    refine gg ?_
    rw[List.take_of_length_le (by omega)] at i4
    rw[i4]
    exact⟨_,rfl,rfl,rfl,trivial⟩
theorem NY(x y:Nat)(h1:1≤x∧x≤64)(h2:16≤y∧y≤65536):Spec Tryz.prog 26 [.val (.int .i64 x),.val (.int .i64 y)] [] (ak (.aD [.ref 27 1 6 0 0,.val (.int .i64 0)]) [] [(27,⟨1,.obj [.own 24 2 1 0 (x*y),.val (.int .i64 y),.val (.int .i64 0),.val (.int .i64 0),.val (.bool false),.val (.int .i64 0)]⟩),(24,⟨2,.bytes (List.replicate (x*y) 255)⟩)]):=by
 have Ce:x*y≤4194304:=Nat.le_trans (Nat.mul_le_mul h1.2 h2.2) (by decide)
 have NZ:0<x*y:=Nat.mul_pos (by omega) (by omega)
 have hc:(x:Int)*(y:Int)=((x*y:Nat):Int):=by push_cast;rfl
 refine ax ai Tryz.func26 rfl Tryz.ntmps26 Tryz.results26 ?_
 refine gg ?_
 rw[hc]
 have rp:Spec Tryz.prog 84 [.own 0 1 1 0 1,.val (.int .i64 ((x*y:Nat):Int))] [⟨1,.bytes [255]⟩] (ak (.own 55 1 1 0 (x*y)) [⟨1,.bytes [255]⟩] [(55,⟨1,.bytes (List.replicate (x*y) 255)⟩)]):=
  kC (NV 0 255 (x*y) NZ Ce) trivial ⟨trivial,trivial⟩ (eA (ml (l:=[255]) (off:=0) (n:=1) rfl (by decide)) (eA o5 iq))
 refine af (rp) Tryz.call84 1 [20,0,0,0,0,0,0,0,0,0,0,0,0,0,0,0,0,0,0,0,0,0,0,0,0,0,0,0,0,0,0,0,0,0,0,0,0,0,0,0,0,0,0,0,0,0,0,0,0,0,0,0,0,0,0,24] [0,0,0,0,0,0,0,0,0,0,0,0,0,0,0,0,0,0,0,0,0,0,0,0,0,0,0,0,0,0,0,0,0,0,0,0,0,0,0,0,0,0,0,0,0,0,0,0,0,0,0,0,0,0,0,1] [55] ?_
 refine gg ?_
 exact⟨_,rfl,rfl,rfl,rfl,trivial⟩
def iv(c:List UInt8)(o:Nat):Nat→List UInt8
 | 0=>c
 | k+1=>(iv c o k).set (o+k) 255
theorem ye(c:List UInt8)(o:Nat):∀k,(iv c o k).length=c.length
 | 0=>rfl
 | k+1=>by simp[iv,ye c o k]
def sL(k v0 v1 o n:Nat)(l:List UInt8)(i:Nat):St:=⟨[.val (.int .i64 k),.ref 0 v0 1 0 0,.any,.any,.val (.int .i64 k),.val (.int .i64 i),.any,.any,.any,.any,.any,.any],[⟨v0,.obj [.own 1 v1 1 o n]⟩,⟨v1,.bytes (iv l o i)⟩,⟨0,.dead⟩,⟨0,.dead⟩,⟨0,.dead⟩,⟨0,.dead⟩,⟨0,.dead⟩,⟨0,.dead⟩,⟨0,.dead⟩,⟨0,.dead⟩,⟨0,.dead⟩,⟨0,.dead⟩,⟨0,.dead⟩,⟨0,.dead⟩]⟩
theorem G7 (k : Nat) (l : List UInt8) (hl : l.length ≤ 140737488355328) (v0 v1 o n : Nat) (hk : k ≤ n) (hn : o + n ≤ l.length) : Spec Tryz.prog 189 [.val (.int .i64 k), .ref 0 v0 1 0 0] [⟨v0, .obj [.own 1 v1 1 o n]⟩, ⟨v1, .bytes l⟩]
   (bZ (.aD []) [⟨v0,.obj [.own 1 v1 1 o n]⟩,⟨v1,.bytes (iv l o k)⟩]):=by
 refine ax ai Tryz.func189 rfl Tryz.ntmps189 Tryz.results189 ?_
 repeat (refine bD ?_)
 (refine aH ?_)
 (refine aH ?_)
 refine uM (σ:={i:Nat//i≤k}) (fun y=>sL k v0 v1 o n l y.1) (fun y=>k - y.1) ⟨0,by omega⟩ ?_ ?_ ?_
 ·simp[sL,jZ,bc,aJ,aM,bu,dO,bF,bb,eF,dg,cL]
 ·simp[sL,jw,iv,bc,aJ,aM,bu,dO,bF,bb,eF,dg,cL]
 ·rintro⟨i,hi⟩
  have N0:=ye l o i
  dsimp only[sL]
  repeat (refine bD ?_)
  refine⟨fun h=> ?_,fun h=> ?_⟩
  ·have bP:i<k:=by have:=of_decide_eq_true h;omega
   repeat (refine bD ?_)
   (refine aH ?_)
   refine⟨⟨i+1,bP⟩,r9 ?_ ?_,?_⟩
   ·simp[sL,jZ,bc,aJ,aM,bu,dO,bF,bb,eF,dg,cL]
   · simp[sL,jw,iv,bc,aJ,aM,bu,dO,bF,bb,eF,dg,cL]
   ·show k - (i+1)<k - i
    omega
  ·have he:i=k:=by have:=of_decide_eq_false h;omega
   subst he
   repeat (refine bD ?_)
   exact⟨_,rfl,rfl⟩
theorem G8 (k : Nat) (l : List UInt8) (hl : l.length ≤ 140737488355328) (w0 w1 w2 v0 v1 o n : Nat) (hk : k ≤ n) (hn : o + n ≤ l.length) (a2 a3 a5 : Int) (a4 : Bool) : Spec Tryz.prog 191 [.ref 0 w0 1 0 0, .ref 1 w1 1 0 0] [⟨w0, .obj [.clo 189 [.ref 2 w2 1 0 0]]⟩, ⟨w1, .obj [.ref 3 v0 6 0 0]⟩, ⟨w2, .obj [.own 4 v1 1 o n]⟩, ⟨v0, .obj [.own 4 v1 1 0 l.length, .val (.int .i64 (k : Int)), .val (.int .i64 a2), .val (.int .i64 a3), .val (.bool a4), .val (.int .i64 a5)]⟩, ⟨v1, .bytes l⟩]
   (bZ (.aD []) [⟨w0,.obj [.clo 189 [.ref 2 w2 1 0 0]]⟩,⟨w1,.obj [.ref 3 v0 6 0 0]⟩,⟨w2,.obj [.own 4 v1 1 o n]⟩,⟨v0,.obj [.own 4 v1 1 0 l.length,.val (.int .i64 (k:Int)),.val (.int .i64 a2),.val (.int .i64 a3),.val (.bool a4),.val (.int .i64 a5)]⟩,⟨v1,.bytes (iv l o k)⟩]):=by
 refine ax ai Tryz.func191 rfl Tryz.ntmps191 Tryz.results191 ?_
 conv=>whnf
 refine bL (p:=5) ai hm [0,0,2,6,14,31] [⟨0,true,false,[3,4,5,6,7]⟩,⟨1,true,false,[2,4,5,6,7]⟩,⟨2,true,false,[2,5,6,7]⟩,⟨3,true,false,[2,6,7]⟩,⟨4,true,false,[2,7]⟩,⟨5,true,true,[]⟩] (by kernel_rfl) ?_
 repeat (refine bD ?_)
 refine kY (G7 k l hl w2 v1 o n hk hn) Tryz.call189 [2,4] rfl rfl (by decide) rfl ?_ ?_ ?_ ?_ ?_
 ·exact cx
 ·exact cx
 ·exact cx
 ·exact cx
 repeat (refine bD ?_)
 exact⟨_,rfl,rfl⟩
theorem N1 (k : Nat) (l : List UInt8) (hl : l.length ≤ 140737488355328) (w0 w1 w2 v0 v1 o n : Nat) (hk : k ≤ n) (hn : o + n ≤ l.length) (a2 a3 a5 : Int) (a4 : Bool) (kb : aX a2) (kc : 0 ≤ a5 ∧ a5 < 9223372036854775807) (d : Bool) (hd : d = if 0 < a2 then decide (a2 - 1 = 0) else a4) : Spec Tryz.prog 190 [.ref 3 v0 6 0 0, .clo 191 [.ref 0 w0 1 0 0, .ref 1 w1 1 0 0]] [⟨w0, .obj [.clo 189 [.ref 2 w2 1 0 0]]⟩, ⟨w1, .obj [.ref 3 v0 6 0 0]⟩, ⟨w2, .obj [.own 4 v1 1 o n]⟩, ⟨v0, .obj [.own 4 v1 1 0 l.length, .val (.int .i64 (k : Int)), .val (.int .i64 a2), .val (.int .i64 a3), .val (.bool a4), .val (.int .i64 a5)]⟩, ⟨v1, .bytes l⟩]
   (bZ (.val (.int .i64 (if d then 6 else 0))) [⟨w0,.obj [.clo 189 [.ref 2 w2 1 0 0]]⟩,⟨w1,.obj [.ref 3 v0 6 0 0]⟩,⟨w2,.obj [.own 4 v1 1 o n]⟩,⟨v0,.obj [.own 4 v1 1 0 l.length,.val (.int .i64 (k:Int)),.val (.int .i64 (if 0<a2 then a2 - 1 else a2)),.val (.int .i64 a3),.val (.bool d),.val (.int .i64 (if d then a5 else a5+1))]⟩,⟨v1,.bytes (if d then l else iv l o k)⟩]):=by
 refine ax ai Tryz.func190 rfl Tryz.ntmps190 Tryz.results190 ?_
 repeat (refine bD ?_)
 refine⟨fun h=> ?_,fun h=> ?_⟩
 ·repeat (refine bD ?_)
  have e1:0<a2:=of_decide_eq_true h
  refine⟨fun h'=> ?_,fun h'=> ?_⟩
  ·have e3:d=true:=by rw[hd,if_pos e1];exact h'
   repeat (refine bD ?_)
   simp only[e3,e1,h',↓reduceIte]
   exact⟨_,rfl,rfl⟩
  ·have e3:d=false:=by rw[hd,if_pos e1];exact h'
   repeat (refine bD ?_)
   refine kY (G8 k l hl w0 w1 w2 v0 v1 o n hk hn (a2 - 1) a3 a5 (decide (a2 - 1=0))) Tryz.call191 [0,1,2,3,4] rfl rfl (by decide) rfl ?_ ?_ ?_ ?_ ?_
   ·exact cx
   ·exact cx
   ·exact cx
   ·exact cx
   ·repeat (refine bD ?_)
    simp only[e3,e1,h',↓reduceIte,Bool.false_eq_true]
    exact⟨_,rfl,rfl⟩
 ·have e1:¬0<a2:=of_decide_eq_false h
  repeat (refine bD ?_)
  refine⟨fun h'=> ?_,fun h'=> ?_⟩
  ·have e3:d=true:=by rw[hd,if_neg e1];exact h'
   repeat (refine bD ?_)
   simp only[e3,e1,h',↓reduceIte]
   exact⟨_,rfl,rfl⟩
  ·have e3:d=false:=by rw[hd,if_neg e1];exact h'
   repeat (refine bD ?_)
   refine kY (G8 k l hl w0 w1 w2 v0 v1 o n hk hn a2 a3 a5 a4) Tryz.call191 [0,1,2,3,4] rfl rfl (by decide) rfl ?_ ?_ ?_ ?_ ?_
   ·exact cx
   ·exact cx
   ·exact cx
   ·exact cx
   ·repeat (refine bD ?_)
    simp only[e3,e1,h',↓reduceIte,Bool.false_eq_true]
    exact⟨_,rfl,rfl⟩
theorem Cf(l:List UInt8)(hl:l.length≤140737488355328)(v0 v1:Nat)(a1 a2 a3 a5:Int)(a4:Bool)(h1:0<a1∧aX a1):Spec Tryz.prog 66 [.ref 0 v0 6 0 0] [⟨v0,.obj [.own 1 v1 1 0 l.length,.val (.int .i64 a1),.val (.int .i64 a2),.val (.int .i64 a3),.val (.bool a4),.val (.int .i64 a5)]⟩,⟨v1,.bytes l⟩] (bZ (.val (.int .i64 (l.length/a1))) [⟨v0,.obj [.own 1 v1 1 0 l.length,.val (.int .i64 a1),.val (.int .i64 a2),.val (.int .i64 a3),.val (.bool a4),.val (.int .i64 a5)]⟩,⟨v1,.bytes l⟩]):=by
 refine ax ai Tryz.func66 rfl Tryz.ntmps66 Tryz.results66 ?_
 repeat (refine bD ?_)
 intro _
 repeat (refine bD ?_)
 conv=>whnf
 conv=>whnf
 refine bL (p:=2) ai hm [0,1,3,7,15,0,32,96,224,511,1023] [⟨0,false,false,[]⟩,⟨1,true,false,[7,8,9,10,11,12,13,14,2]⟩,⟨2,true,false,[8,9,10,11,12,13,14,2]⟩,⟨3,true,false,[9,10,11,12,13,14,2]⟩,⟨4,true,false,[10,11,12,13,14,2]⟩,⟨5,false,false,[]⟩,⟨6,true,false,[5,6,7,8,9,12,13,14,2]⟩,⟨7,true,false,[5,6,7,8,9,13,14,2]⟩,⟨8,true,false,[5,6,7,8,9,14,2]⟩,⟨9,false,false,[]⟩,⟨10,false,false,[]⟩] (by kernel_rfl) ?_
 repeat (refine bD ?_)
 exact⟨_,rfl,rfl⟩
theorem N2 (x k : Nat) (l : List UInt8) (hl : l.length ≤ 140737488355328) (pg : 0 < k) (hx : x * k + k ≤ l.length) (UZ : (x : Int) < l.length / (k : Int)) (v0 v1 : Nat) (a2 a3 a5 : Int) (kb : aX a2) (Cg : 0 ≤ a3 ∧ aX a3) (kc : 0 ≤ a5 ∧ a5 < 9223372036854775807) (d : Bool) (hd : d = if 0 < a2 then decide (a2 - 1 = 0) else false) : Spec Tryz.prog 159 [.ref 0 v0 6 0 0, .val (.int .i64 (x : Int))] [⟨v0, .obj [.own 1 v1 1 0 l.length, .val (.int .i64 (k : Int)), .val (.int .i64 a2), .val (.int .i64 a3), .val (.bool false), .val (.int .i64 a5)]⟩, ⟨v1, .bytes l⟩]
   (bZ (.val (.int .i64 (if d then 6 else 0))) [⟨v0,.obj [.own 1 v1 1 0 l.length,.val (.int .i64 (k:Int)),.val (.int .i64 (if 0<a2 then a2 - 1 else a2)),.val (.int .i64 a3),.val (.bool d),.val (.int .i64 (if d then a5 else a5+1))]⟩,⟨v1,.bytes (if d then iv l (x*k) (min a3 (k:Int)).toNat else iv l (x*k) k)⟩]):=by
 have kt:x≤l.length:=Nat.le_trans (Nat.le_mul_of_pos_right x pg) (by omega)
 have hmul:((x:Int)+1)*(k:Int)=(x:Int)*k+k:=by rw[Int.add_mul,Int.one_mul]
 have j4:(x:Int)*(k:Int)+k≤l.length:=by exact_mod_cast hx
 have nP:0≤(x:Int)*(k:Int):=Int.mul_nonneg (by omega) (by omega)
 refine ax ai Tryz.func159 rfl Tryz.ntmps159 Tryz.results159 ?_
 repeat (refine bD ?_)
 refine kY (sK v0 v1 l k a2 a3 a5 false) Tryz.call86 [0,1] rfl rfl (by decide) rfl ?_ ?_ ?_ ?_ ?_
 ·exact cx
 ·exact cx
 ·exact cx
 ·exact cx
 repeat (refine bD ?_)
 intro _
 repeat (refine bD ?_)
 (refine aH ?_)
 refine⟨fun hG=>⟨?_,?_⟩,fun hG=>absurd (decide_eq_false (by omega:¬(x:Int)<0)) hG⟩
 ·dsimp only[dV,dP,iX,aR,bF,bb,List.toList_toArray,List.map_cons,List.map_nil,List.cons_append,List.nil_append]
  simp[dV,dP,iX,hG]
 refine kY (Cf l hl v0 v1 k a2 a3 a5 false ⟨by omega,by omega,by omega⟩) Tryz.call66 [0,1] rfl rfl (by decide) rfl ?_ ?_ ?_ ?_ ?_
 ·exact cx
 ·exact cx
 ·exact cx
 ·exact cx
 repeat (refine bD ?_)
 intro _
 repeat (refine bD ?_)
 (refine aH ?_)
 (refine aH ?_)
 refine bL (p:=2) ai hm [0,1,3,7,0,0,32,96,224,496,0,1024,0,4096,12288,28672,64512,131071,0,524287] [⟨0,true,false,[23,24,25,26,27,28,29,30,31,32,33,34,35,36,37,38,39,6]⟩,⟨1,true,false,[24,25,26,27,28,29,30,31,32,33,34,35,36,37,38,39,6]⟩,⟨2,true,false,[25,26,27,28,29,30,31,32,33,34,35,36,37,38,39,6]⟩,⟨3,true,false,[26,27,28,29,30,31,32,33,34,35,36,37,38,39,6]⟩,⟨4,false,false,[]⟩,⟨5,true,false,[22,23,24,25,26,28,29,30,31,32,33,34,35,36,37,38,39,6]⟩,⟨6,true,false,[22,23,24,25,26,29,30,31,32,33,34,35,36,37,38,39,6]⟩,⟨7,true,false,[22,23,24,25,26,30,31,32,33,34,35,36,37,38,39,6]⟩,⟨8,true,false,[22,23,24,25,26,31,32,33,34,35,36,37,38,39,6]⟩,⟨9,false,false,[]⟩,⟨10,false,false,[]⟩,⟨11,false,false,[]⟩,⟨12,true,false,[22,23,24,25,26,27,28,29,30,31,32,33,35,36,37,38,39,6]⟩,⟨13,true,false,[22,23,24,25,26,27,28,29,30,31,32,33,36,37,38,39,6]⟩,⟨14,true,false,[22,23,24,25,26,27,28,29,30,31,32,33,37,38,39,6]⟩,⟨15,true,false,[22,23,24,25,26,27,28,29,30,31,32,33,38,39,6]⟩,⟨16,false,false,[]⟩,⟨17,true,false,[6]⟩,⟨18,true,false,[22,23,24,25,26,27,28,29,30,31,32,33,34,35,36,37,38,39]⟩,⟨19,true,true,[]⟩] (by kernel_rfl) ?_
 repeat (refine bD ?_)
 refine kY (N1 k l hl 1 1 1 v0 v1 (0+((x:Int)*(k:Int)).toNat) ((((x:Int)+1)*(k:Int)).toNat - ((x:Int)*(k:Int)).toNat) (by omega) (by omega) a2 a3 a5 false kb kc d hd) Tryz.call190 [9,4,8,0,1] rfl rfl (by decide) rfl ?_ ?_ ?_ ?_ ?_
 ·exact cx
 ·exact cx
 ·exact cx
 ·exact cx
 have ho:0+((x:Int)*(k:Int)).toNat=x*k:=by rw[Nat.zero_add];exact Int.toNat_natCast (x*k)
 rw[ho]
 cases d with
 | false=>
  repeat (refine bD ?_)
  intro _
  repeat (refine bD ?_)
  exact⟨_,rfl,rfl⟩
 | true=>
  repeat (refine bD ?_)
  refine⟨fun _=> ?_,fun h=>absurd h (by decide)⟩
  repeat (refine bD ?_)
  (refine aH ?_)
  (refine aH ?_)
  refine bL (p:=2) ai hm [0,0,2,6,14,0,32,96,224,510,1023] [⟨0,true,false,[47,48,49,50,51,52,53,54,55,56]⟩,⟨1,true,false,[46,48,49,50,51,52,53,54,55,56]⟩,⟨2,true,false,[46,49,50,51,52,53,54,55,56]⟩,⟨3,true,false,[46,50,51,52,53,54,55,56]⟩,⟨4,true,false,[46,51,52,53,54,55,56]⟩,⟨5,true,false,[46,47,48,49,50,52,53,54,55,56]⟩,⟨6,true,false,[46,47,48,49,50,53,54,55,56]⟩,⟨7,true,false,[46,47,48,49,50,54,55,56]⟩,⟨8,true,false,[46,47,48,49,50,55,56]⟩,⟨9,false,false,[]⟩,⟨10,true,true,[]⟩] (by kernel_rfl) ?_
  repeat (refine bD ?_)
  refine kY (G7 (min a3 (k:Int)).toNat l hl 1 v1 (x*k) ((((x:Int)+1)*(k:Int)).toNat - ((x:Int)*(k:Int)).toNat) (by omega) (by omega)) Tryz.call189 [8,1] rfl rfl (by decide) ?_ ?_ ?_ ?_ ?_ ?_
  ·simp only[cm,bJ,rl,rl.cw,bu,bF,bb,List.map_cons,List.map_nil,List.cons_append,List.nil_append]
   have Ci:((min a3 (k:Int)).toNat:Int)=min a3 (k:Int):=Int.toNat_of_nonneg (by omega)
   rw[Ci]
   rfl
  ·exact cx
  ·exact cx
  ·exact cx
  ·exact cx
  repeat (refine bD ?_)
  exact⟨_,rfl,rfl⟩
theorem N3 (l : List UInt8) (hl : l.length ≤ 140737488355328) (v0 o n : Nat) (h : o + n ≤ l.length) : Spec Tryz.prog 65 [.own 0 v0 1 o n] [⟨v0, .bytes l⟩]
   (ak (.own 6 2 1 0 n) [⟨v0,.bytes l⟩] [(6,⟨2,.bytes ((l.drop o).take n)⟩)]):=by
 refine nh ai Tryz.func65 rfl Tryz.ntmps65 Tryz.results65 ?_
 repeat (refine bD ?_)
 intro b hb
 cases b with
 | true=>
  obtain rfl:=hb rfl
  repeat (refine bD ?_)
  refine⟨fun _=> ?_,fun h=>absurd h (by decide)⟩
  repeat (refine bD ?_)
  refine⟨_,lH 6 2 (.bytes []) rfl (by decide) rfl (t':=[.any,.any,.own 6 2 1 0 0,.any,.any,.any,.any,.any]) ?_,?_⟩
  ·simp[jz,bc,aJ,aM,bu,dO,bF,bb,eF,dg,cL]
  repeat (refine bD ?_)
  exact⟨_,rfl,rfl,by simp[allM,bb]⟩
 | false=>
  repeat (refine bD ?_)
  intro _
  repeat (refine bD ?_)
  conv=>whnf
  refine⟨(l.drop o).take n,?_⟩
  conv=>whnf
  refine And.intro ?_ ?_
  ·refine⟨rfl,⟨rfl,rfl,h⟩,rfl,rfl,rfl,rfl,rfl,rfl,?_,by decide⟩
   simp only[List.map_nil,List.length_nil,List.length_take,List.length_drop]
   omega
  repeat (refine bD ?_)
  refine⟨_,jb _,?_⟩
  repeat (refine bD ?_)
  have:((l.drop o).take n).length=n:=by simp;omega
  refine⟨_,?_,rfl,rfl,trivial⟩
  simp only[lA,List.map_nil,List.length_nil,this,Nat.zero_add]
def eV:List UInt8→Nat→List UInt8→Int→Int→(Int×List UInt8×Int×Bool×Int)
 | [],_,c,left,w=>(0,c,left,false,w)
 | b::m,k,c,left,w=>if 0<left∧left - 1=0 then(6,c,left - 1,true,w) else eV m (k+1) (c.set k (c.getD k 0&&&b)) (if 0<left then left - 1 else left) (w+1)
structure PS where
 i:Nat
 c:List UInt8
 left:Int
 w:Int
 e:Nat
 f:Nat
def sM(a:Int)(m:List UInt8)(z n v0 v1:Nat)(a1 a3:Int)(y:PS):St:=⟨[.ref 0 v0 6 0 0,.val (.int .i64 a),.bs z m,.ref 5 1 1 0 0,.ref 6 1 1 0 0,.any,.any,.any,.any,.any,.any,.any,.any,.any,.any,.any,.any,.any,.any,.any,.any,.any,.bs z m,.val (.int .i64 m.length),.val (.int .i64 y.i),.any,.any,.any,.any,.any,.any,.any,.any,.any,.any,.any],[⟨v0,.obj [.own 1 v1 1 0 n,.val (.int .i64 a1),.val (.int .i64 y.left),.val (.int .i64 a3),.val (.bool false),.val (.int .i64 y.w)]⟩,⟨v1,.bytes y.c⟩,⟨0,.dead⟩,⟨0,.dead⟩,⟨0,.dead⟩,⟨1,.obj [.ref 0 v0 6 0 0]⟩,⟨1,.obj [.val (.int .i64 a)]⟩,⟨0,.dead⟩,⟨0,.dead⟩,⟨0,.dead⟩,⟨y.e,.dead⟩,⟨y.f,.dead⟩,⟨0,.dead⟩,⟨0,.dead⟩,⟨0,.dead⟩,⟨0,.dead⟩,⟨0,.dead⟩,⟨0,.dead⟩,⟨0,.dead⟩,⟨0,.dead⟩,⟨0,.dead⟩,⟨0,.dead⟩,⟨0,.dead⟩,⟨0,.dead⟩,⟨0,.dead⟩,⟨0,.dead⟩,⟨0,.dead⟩,⟨0,.dead⟩,⟨0,.dead⟩,⟨0,.dead⟩,⟨0,.dead⟩,⟨0,.dead⟩,⟨0,.dead⟩,⟨0,.dead⟩,⟨0,.dead⟩,⟨0,.dead⟩,⟨0,.dead⟩,⟨0,.dead⟩]⟩
theorem N4 (a : Int) (ha : aX a) (m : List UInt8) (hm : m.length ≤ 140737488355328) (z : Nat) (l : List UInt8) (hl : l.length ≤ 140737488355328) (v0 v1 : Nat) (a1 a2 a3 a5 : Int) (kb : aX a2) (kc : 0 ≤ a5 ∧ a5 + m.length < 9223372036854775807) (c7 : 0 ≤ a ∧ a + m.length ≤ l.length) (R : Int × List UInt8 × Int × Bool × Int) (hR : eV m a.toNat l a2 a5 = R) : Spec Tryz.prog 165 [.ref 0 v0 6 0 0, .val (.int .i64 a), .bs z m] [⟨v0, .obj [.own 1 v1 1 0 l.length, .val (.int .i64 a1), .val (.int .i64 a2), .val (.int .i64 a3), .val (.bool false), .val (.int .i64 a5)]⟩, ⟨v1, .bytes l⟩]
   (bZ (.val (.int .i64 R.1)) [⟨v0,.obj [.own 1 v1 1 0 l.length,.val (.int .i64 a1),.val (.int .i64 R.2.2.1),.val (.int .i64 a3),.val (.bool R.2.2.2.1),.val (.int .i64 R.2.2.2.2)]⟩,⟨v1,.bytes R.2.1⟩]):=by
 refine ax ai Tryz.func165 rfl Tryz.ntmps165 Tryz.results165 ?_
 repeat (refine bD ?_)
 refine kY (sK v0 v1 l a1 a2 a3 a5 false) Tryz.call86 [0,1] rfl rfl (by decide) rfl ?_ ?_ ?_ ?_ ?_
 ·exact cx
 ·exact cx
 ·exact cx
 ·exact cx
 repeat (refine bD ?_)
 intro _
 repeat (refine bD ?_)
 refine kY (Cd a m.length ha ⟨by omega,by omega⟩ l hl v0 v1 a1 a2 a3 a5 false) Tryz.call204 [0,1] rfl rfl (by decide) rfl ?_ ?_ ?_ ?_ ?_
 ·exact cx
 ·exact cx
 ·exact cx
 ·exact cx
 have hw:decide (0≤a∧0≤(m.length:Int)∧a+m.length≤l.length)=true:=by simp only[decide_eq_true_eq];omega
 rw[hw]
 repeat (refine bD ?_)
 intro _
 repeat (refine bD ?_)
 conv=>whnf
 conv=>whnf
 refine uM (σ:={y:PS//y.i≤m.length∧y.c.length=l.length∧aX y.left∧0≤y.w∧y.w+(m.length - y.i:Int)<9223372036854775807∧eV (m.drop y.i) (a.toNat+y.i) y.c y.left y.w=R}) (fun y=>sM a m z l.length v0 v1 a1 a3 y.1) (fun y=>m.length - y.1.i) ⟨⟨0,l,a2,a5,0,0⟩,by simp,rfl,kb,kc.1,by simp;omega,by simpa using hR⟩ ?_ ?_ ?_
 ·simp[sM,jZ]
 ·simp[sM,jw]
 ·rintro⟨⟨i,c,left,w,e,f⟩,h1,h2,h3,h4,h5,h6⟩
  simp only at h1 h2 h3 h4 h5 h6
  dsimp only[sM]
  repeat (refine bD ?_)
  refine⟨fun h=> ?_,fun h=> ?_⟩
  ·have hi:i<m.length:=by have:=of_decide_eq_true h;omega
   repeat (refine bD ?_)
   have G9:m.drop i=m.getD i 0::m.drop (i+1):=by rw[List.drop_eq_getElem_cons hi,List.getD_eq_getElem?_getD,List.getElem?_eq_getElem hi];rfl
   rw[G9,eV] at h6
   obtain⟨d,hd⟩:∃d:Bool,d=(if 0<left then decide (left - 1=0) else false):=⟨_,rfl⟩
   have jv:=NQ (i:Int) a (m.getD i 0) ⟨by omega,by omega⟩ ha c (by omega) c7.1 (by omega) (by omega) 1 1 (e+1) (f+1) v0 v1 a1 left a3 w false h3 ⟨h4,by omega⟩ d hd
   rw[h2] at jv
   refine kY jv Tryz.call190 [5,6,10,11,0,1] rfl rfl (by decide) rfl ?_ ?_ ?_ ?_ ?_
   ·exact cx
   ·exact cx
   ·exact cx
   ·exact cx
   cases d with
   | true=>
    have hc:0<left∧left - 1=0:=by
     by_cases q:0<left
     ·rw[if_pos q] at hd;exact⟨q,of_decide_eq_true hd.symm⟩
     ·rw[if_neg q] at hd;cases hd
    rw[if_pos hc] at h6
    subst h6
    repeat (refine bD ?_)
    refine⟨fun _=> ?_,fun h=>absurd h (by decide)⟩
    repeat (refine bD ?_)
    simp only[hc.1,↓reduceIte]
    exact⟨_,rfl,rfl⟩
   | false=>
    have hc:¬(0<left∧left - 1=0):=by
     rintro⟨q1,q2⟩
     rw[if_pos q1,q2] at hd;cases hd
    rw[if_neg hc] at h6
    repeat (refine bD ?_)
    intro _
    repeat (refine bD ?_)
    conv=>whnf
    refine⟨⟨⟨i+1,c.set (a.toNat+i) (c.getD (a.toNat+i) 0&&&m.getD i 0),(if 0<left then left - 1 else left),w+1,e+1,f+1⟩,?_,?_,?_,?_,?_,?_⟩,r9 ?_ ?_,?_⟩
    ·exact hi
    ·simp[h2]
    ·simp only[aX] at*;split<;>omega
    ·simp only;omega
    ·simp only;omega
    ·exact h6
    ·simp[sM,jZ]
    ·rw[show(a+(i:Int)).toNat=a.toNat+i by omega]
     simp[sM,jw]
    ·show m.length - (i+1)<m.length - i
     omega
  ·have hi:i=m.length:=by have:=of_decide_eq_false h;omega
   rw[hi,List.drop_length,eV] at h6
   subst h6
   repeat (refine bD ?_)
   exact⟨_,rfl,rfl⟩
structure U where
 l:List UInt8
 k:Nat
 ar:Int
 pt:Int
 dd:Bool
 wr:Int
def U.arm(s:U)(x y:Int):Int×U:=if s.dd then(6,s) else if x<0∨y<0 then(1,s) else(0,⟨s.l,s.k,x,y,false,s.wr⟩)
def U.on(s:U):Int×U:=if s.dd then(0,⟨s.l,s.k,0,s.pt,false,s.wr⟩) else(12,s)
def U.read(s:U)(i n:Int):Int×List UInt8:=if s.dd then(6,[]) else if 0≤i∧0≤n∧i+n≤s.l.length then(0,(s.l.drop i.toNat).take n.toNat) else(1,[])
def U.prog(s:U)(a:Int)(m:List UInt8):Int×U:=if s.dd then(6,s) else if 0≤a∧a+m.length≤s.l.length then((eV m a.toNat s.l s.ar s.wr).1,⟨(eV m a.toNat s.l s.ar s.wr).2.1,s.k,(eV m a.toNat s.l s.ar s.wr).2.2.1,s.pt,(eV m a.toNat s.l s.ar s.wr).2.2.2.1,(eV m a.toNat s.l s.ar s.wr).2.2.2.2⟩) else(1,s)
def U.goes(s:U):Bool:=if 0<s.ar then decide (s.ar - 1=0) else false
def U.erase(s:U)(x:Int):Int×U:=if s.dd then(6,s) else if 0≤x∧x<s.l.length/(s.k:Int) then(if s.goes then 6 else 0,⟨if s.goes then iv s.l (x.toNat*s.k) (min s.pt (s.k:Int)).toNat else iv s.l (x.toNat*s.k) s.k,s.k,if 0<s.ar then s.ar - 1 else s.ar,s.pt,s.goes,if s.goes then s.wr else s.wr+1⟩) else(1,s)
theorem Cj:∀(m:List UInt8)(k:Nat)(c:List UInt8)(left w:Int),(eV m k c left w).2.1.length=c.length
 | [],_,_,_,_=>rfl
 | b::m,k,c,left,w=>by
  rw[eV]
  split
  ·rfl
  ·rw[Cj m];simp
theorem N5(s:U)(x y:Int)(hx:aX x)(hy:aX y)(v0 v1:Nat):Spec Tryz.prog 30 [.ref 0 v0 6 0 0,.val (.int .i64 x),.val (.int .i64 y)] [⟨v0,.obj [.own 1 v1 1 0 s.l.length,.val (.int .i64 (s.k:Int)),.val (.int .i64 s.ar),.val (.int .i64 s.pt),.val (.bool s.dd),.val (.int .i64 s.wr)]⟩,⟨v1,.bytes s.l⟩] (bZ (.val (.int .i64 (s.arm x y).1)) [⟨v0,.obj [.own 1 v1 1 0 (s.arm x y).2.l.length,.val (.int .i64 ((s.arm x y).2.k:Int)),.val (.int .i64 (s.arm x y).2.ar),.val (.int .i64 (s.arm x y).2.pt),.val (.bool (s.arm x y).2.dd),.val (.int .i64 (s.arm x y).2.wr)]⟩,⟨v1,.bytes (s.arm x y).2.l⟩]):=by
 obtain⟨l,k,ar,pt,dd,wr⟩:=s
 refine ax ai Tryz.func30 rfl Tryz.ntmps30 Tryz.results30 ?_
 refine gg ?_
 refine aY (sK v0 v1 l k ar pt wr dd) Tryz.call86 [0,1] ?_
 cases dd with
 | true=>
  refine gg ?_
  exact⟨_,rfl,rfl⟩
 | false=>
  refine gg ?_
  refine And.intro (fun h=> ?_) (fun h=> ?_)
  ·have hc:x<0∨y<0:=by simpa using h
   refine gg ?_
   simp only[U.arm,if_pos hc,Bool.false_eq_true,if_false]
   exact⟨_,rfl,rfl⟩
  ·have hc:¬(x<0∨y<0):=by simp at h;omega
   refine gg ?_
   simp only[U.arm,if_neg hc,Bool.false_eq_true,if_false]
   exact⟨_,rfl,rfl⟩
theorem N6(s:U)(v0 v1:Nat):Spec Tryz.prog 32 [.ref 0 v0 6 0 0] [⟨v0,.obj [.own 1 v1 1 0 s.l.length,.val (.int .i64 (s.k:Int)),.val (.int .i64 s.ar),.val (.int .i64 s.pt),.val (.bool s.dd),.val (.int .i64 s.wr)]⟩,⟨v1,.bytes s.l⟩] (bZ (.val (.int .i64 s.on.1)) [⟨v0,.obj [.own 1 v1 1 0 s.on.2.l.length,.val (.int .i64 (s.on.2.k:Int)),.val (.int .i64 s.on.2.ar),.val (.int .i64 s.on.2.pt),.val (.bool s.on.2.dd),.val (.int .i64 s.on.2.wr)]⟩,⟨v1,.bytes s.on.2.l⟩]):=by
 obtain⟨l,k,ar,pt,dd,wr⟩:=s
 refine ax ai Tryz.func32 rfl Tryz.ntmps32 Tryz.results32 ?_
 cases dd<;>refine gg ?_<;>exact⟨_,rfl,rfl⟩
theorem N7(s:U)(v0 v1:Nat):Spec Tryz.prog 31 [.ref 0 v0 6 0 0] [⟨v0,.obj [.own 1 v1 1 0 s.l.length,.val (.int .i64 (s.k:Int)),.val (.int .i64 s.ar),.val (.int .i64 s.pt),.val (.bool s.dd),.val (.int .i64 s.wr)]⟩,⟨v1,.bytes s.l⟩] (bZ (.val (.bool s.dd)) [⟨v0,.obj [.own 1 v1 1 0 s.l.length,.val (.int .i64 (s.k:Int)),.val (.int .i64 s.ar),.val (.int .i64 s.pt),.val (.bool s.dd),.val (.int .i64 s.wr)]⟩,⟨v1,.bytes s.l⟩]):=by
 obtain⟨l,k,ar,pt,dd,wr⟩:=s
 refine ax ai Tryz.func31 rfl Tryz.ntmps31 Tryz.results31 ?_
 refine gg ?_
 exact⟨_,rfl,rfl⟩
theorem vD(s:U)(v0 v1:Nat):Spec Tryz.prog 67 [.ref 0 v0 6 0 0] [⟨v0,.obj [.own 1 v1 1 0 s.l.length,.val (.int .i64 (s.k:Int)),.val (.int .i64 s.ar),.val (.int .i64 s.pt),.val (.bool s.dd),.val (.int .i64 s.wr)]⟩,⟨v1,.bytes s.l⟩] (bZ (.val (.int .i64 (s.k:Int))) [⟨v0,.obj [.own 1 v1 1 0 s.l.length,.val (.int .i64 (s.k:Int)),.val (.int .i64 s.ar),.val (.int .i64 s.pt),.val (.bool s.dd),.val (.int .i64 s.wr)]⟩,⟨v1,.bytes s.l⟩]):=by
 obtain⟨l,k,ar,pt,dd,wr⟩:=s
 refine ax ai Tryz.func67 rfl Tryz.ntmps67 Tryz.results67 ?_
 refine gg ?_
 exact⟨_,rfl,rfl⟩
theorem Ck(s:U)(hl:s.l.length≤140737488355328)(hk:0<s.k∧s.k≤65536)(v0 v1:Nat):Spec Tryz.prog 66 [.ref 0 v0 6 0 0] [⟨v0,.obj [.own 1 v1 1 0 s.l.length,.val (.int .i64 (s.k:Int)),.val (.int .i64 s.ar),.val (.int .i64 s.pt),.val (.bool s.dd),.val (.int .i64 s.wr)]⟩,⟨v1,.bytes s.l⟩] (bZ (.val (.int .i64 (s.l.length/(s.k:Int)))) [⟨v0,.obj [.own 1 v1 1 0 s.l.length,.val (.int .i64 (s.k:Int)),.val (.int .i64 s.ar),.val (.int .i64 s.pt),.val (.bool s.dd),.val (.int .i64 s.wr)]⟩,⟨v1,.bytes s.l⟩]):=
 Cf s.l hl v0 v1 s.k s.ar s.pt s.wr s.dd ⟨by omega,by omega,by omega⟩
theorem N8 (s : U) (hl : s.l.length ≤ 140737488355328) (i n : Int) (hi : aX i) (hn : aX n) (v0 v1 : Nat) : Spec Tryz.prog 188 [.ref 0 v0 6 0 0, .val (.int .i64 i), .val (.int .i64 n)] [⟨v0, .obj [.own 1 v1 1 0 s.l.length, .val (.int .i64 (s.k : Int)), .val (.int .i64 s.ar), .val (.int .i64 s.pt), .val (.bool s.dd), .val (.int .i64 s.wr)]⟩, ⟨v1, .bytes s.l⟩]
   (ak (.aD [.own 30 3 1 0 (s.read i n).2.length,.val (.int .i64 (s.read i n).1)]) [⟨v0,.obj [.own 1 v1 1 0 s.l.length,.val (.int .i64 (s.k:Int)),.val (.int .i64 s.ar),.val (.int .i64 s.pt),.val (.bool s.dd),.val (.int .i64 s.wr)]⟩,⟨v1,.bytes s.l⟩] [(30,⟨3,.bytes (s.read i n).2⟩)]):=by
 obtain⟨l,k,ar,pt,dd,wr⟩:=s
 simp only at hl
 refine nh ai Tryz.func188 rfl Tryz.ntmps188 Tryz.results188 ?_
 refine gg ?_
 refine aY (sK v0 v1 l k ar pt wr dd) Tryz.call86 [0,1] ?_
 cases dd with
 | true=>
  refine gg ?_
  refine⟨_,lH 30 3 (.bytes []) rfl (by decide) rfl (t':=[.any,.any,.any,.any,.any,.any,.own 30 3 1 0 0,.val (.int .i64 6),.any,.any,.any,.any,.any,.any,.any,.any,.any,.any,.any,.any,.any,.any,.any,.any,.any,.any,.any,.any,.any]) ?_,?_⟩
  ·simp[jz,bc,aJ,aM,bu,dO,bF,bb,eF,dg,cL]
  refine gg ?_
  exact⟨_,rfl,rfl,rfl,trivial⟩
 | false=>
  refine gg ?_
  refine aY (Cd i n hi hn l hl v0 v1 k ar pt wr false) Tryz.call204 [0,1] ?_
  by_cases hc:0≤i∧0≤n∧i+n≤l.length
  ·rw[decide_eq_true hc]
   refine gg ?_
   refine af (N3 l hl v1 (0+i.toNat) ((i+n).toNat - i.toNat) (by omega)) Tryz.call65 1 [1,0,0,0,0,0,30] [0,0,0,0,0,0,1] [6] ?_
   refine gg ?_
   refine⟨_,jb _,?_⟩
   refine gg ?_
   have e1:(i+n).toNat - i.toNat=n.toNat:=by omega
   have e2:((l.drop i.toNat).take n.toNat).length=n.toNat:=by simp;omega
   simp only[U.read,if_pos hc,Bool.false_eq_true,if_false,e2]
   rw[Nat.zero_add,e1]
   exact⟨_,rfl,rfl,rfl,trivial⟩
  ·rw[decide_eq_false hc]
   refine gg ?_
   refine⟨_,lH 30 3 (.bytes []) rfl (by decide) rfl (t':=[.any,.any,.any,.any,.any,.any,.own 30 3 1 0 0,.val (.int .i64 1),.any,.any,.any,.any,.any,.any,.any,.any,.any,.any,.any,.any,.any,.any,.any,.any,.any,.any,.any,.any,.any]) ?_,?_⟩
   ·simp[jz,bc,aJ,aM,bu,dO,bF,bb,eF,dg,cL]
   refine gg ?_
   simp only[U.read,if_neg hc,Bool.false_eq_true,if_false]
   exact⟨_,rfl,rfl,rfl,trivial⟩
theorem N9 (s : U) (hl : s.l.length ≤ 140737488355328) (a : Int) (ha : aX a) (m : List UInt8) (fu : m.length ≤ 140737488355328) (kb : aX s.ar) (kc : 0 ≤ s.wr ∧ s.wr + m.length < 9223372036854775807) (z : Nat) (v0 v1 : Nat) : Spec Tryz.prog 165 [.ref 0 v0 6 0 0, .val (.int .i64 a), .bs z m] [⟨v0, .obj [.own 1 v1 1 0 s.l.length, .val (.int .i64 (s.k : Int)), .val (.int .i64 s.ar), .val (.int .i64 s.pt), .val (.bool s.dd), .val (.int .i64 s.wr)]⟩, ⟨v1, .bytes s.l⟩]
   (bZ (.val (.int .i64 (s.prog a m).1)) [⟨v0,.obj [.own 1 v1 1 0 (s.prog a m).2.l.length,.val (.int .i64 ((s.prog a m).2.k:Int)),.val (.int .i64 (s.prog a m).2.ar),.val (.int .i64 (s.prog a m).2.pt),.val (.bool (s.prog a m).2.dd),.val (.int .i64 (s.prog a m).2.wr)]⟩,⟨v1,.bytes (s.prog a m).2.l⟩]):=by
 obtain⟨l,k,ar,pt,dd,wr⟩:=s
 simp only at hl kb kc
 by_cases hc:dd=false∧0≤a∧a+m.length≤l.length
 ·obtain⟨rfl,hc⟩:=hc
  have:=N4 a ha m fu z l hl v0 v1 k ar pt wr kb kc hc _ rfl
  simp only[U.prog,if_pos hc,Bool.false_eq_true,if_false,Cj]
  exact this
 refine ax ai Tryz.func165 rfl Tryz.ntmps165 Tryz.results165 ?_
 refine gg ?_
 refine aY (sK v0 v1 l k ar pt wr dd) Tryz.call86 [0,1] ?_
 cases dd with
 | true=>
  refine gg ?_
  exact⟨_,rfl,rfl⟩
 | false=>
  have qb:¬(0≤a∧a+m.length≤l.length):=fun q=>hc ⟨rfl,q⟩
  have iR:¬(0≤a∧0≤(m.length:Int)∧a+m.length≤l.length):=fun q=>qb ⟨q.1,q.2.2⟩
  refine gg ?_
  refine aY (Cd a m.length ha ⟨by omega,by omega⟩ l hl v0 v1 k ar pt wr false) Tryz.call204 [0,1] ?_
  rw[decide_eq_false iR]
  refine gg ?_
  simp only[U.prog,if_neg qb,Bool.false_eq_true,if_false]
  exact⟨_,rfl,rfl⟩
theorem Oa (s : U) (hl : s.l.length ≤ 140737488355328) (hk : 0 < s.k ∧ s.k ≤ 65536) (x : Int) (hx : aX x) (kb : aX s.ar) (Cg : 0 ≤ s.pt ∧ aX s.pt) (kc : 0 ≤ s.wr ∧ s.wr < 9223372036854775807) (v0 v1 : Nat) : Spec Tryz.prog 159 [.ref 0 v0 6 0 0, .val (.int .i64 x)] [⟨v0, .obj [.own 1 v1 1 0 s.l.length, .val (.int .i64 (s.k : Int)), .val (.int .i64 s.ar), .val (.int .i64 s.pt), .val (.bool s.dd), .val (.int .i64 s.wr)]⟩, ⟨v1, .bytes s.l⟩]
   (bZ (.val (.int .i64 (s.erase x).1)) [⟨v0,.obj [.own 1 v1 1 0 (s.erase x).2.l.length,.val (.int .i64 ((s.erase x).2.k:Int)),.val (.int .i64 (s.erase x).2.ar),.val (.int .i64 (s.erase x).2.pt),.val (.bool (s.erase x).2.dd),.val (.int .i64 (s.erase x).2.wr)]⟩,⟨v1,.bytes (s.erase x).2.l⟩]):=by
 obtain⟨l,k,ar,pt,dd,wr⟩:=s
 simp only at hl hk kb Cg kc
 by_cases hc:dd=false∧0≤x∧x<l.length/(k:Int)
 ·obtain⟨rfl,hc⟩:=hc
  obtain⟨x',rfl⟩:=Int.eq_ofNat_of_zero_le hc.1
  have Ob:x'*k+k≤l.length:=by
   have h1:(x':Int)+1≤l.length/(k:Int):=by omega
   have h2:=Int.mul_le_mul_of_nonneg_right h1 (show(0:Int)≤k by omega)
   have h3:(l.length:Int)/(k:Int)*k≤l.length:=Int.ediv_mul_le _ (by omega)
   rw[Int.add_mul,Int.one_mul] at h2
   exact_mod_cast Int.le_trans h2 h3
  have:=N2 x' k l hl hk.1 Ob hc.2 v0 v1 ar pt wr kb Cg kc _ rfl
  have e1:∀d:Bool,(if d then iv l (x'*k) (min pt (k:Int)).toNat else iv l (x'*k) k).length=l.length:=by intro d;cases d<;>simp[ye]
  have e2:((x':Int)).toNat=x':=by omega
  simp only[U.erase,if_pos hc,Bool.false_eq_true,if_false,e1,e2,U.goes]
  exact this
 refine ax ai Tryz.func159 rfl Tryz.ntmps159 Tryz.results159 ?_
 refine gg ?_
 refine aY (sK v0 v1 l k ar pt wr dd) Tryz.call86 [0,1] ?_
 cases dd with
 | true=>
  refine gg ?_
  exact⟨_,rfl,rfl⟩
 | false=>
  have qb:¬(0≤x∧x<l.length/(k:Int)):=fun q=>hc ⟨rfl,q⟩
  refine gg ?_
  (refine aH ?_)
  by_cases nP:x<0
  ·refine And.intro (fun hG=>absurd hG (by simp[nP])) (fun hG=> ?_)
   refine gg ?_
   simp only[U.erase,if_neg qb,Bool.false_eq_true,if_false]
   exact⟨_,rfl,rfl⟩
  ·refine And.intro (fun hG=> ?_) (fun hG=>absurd (decide_eq_false nP) hG)
   refine And.intro ?_ ?_
   ·dsimp only[dV,dP,iX,aR,bF,bb,List.toList_toArray,List.map_cons,List.map_nil,List.cons_append,List.nil_append]
    simp[dV,dP,iX,hG]
   refine aY (Cf l hl v0 v1 k ar pt wr false ⟨by omega,by omega,by omega⟩) Tryz.call66 [0,1] ?_
   refine gg ?_
   simp only[U.erase,if_neg qb,Bool.false_eq_true,if_false]
   exact⟨_,rfl,rfl⟩
end Go.Proofs.YtpbpiehcchannaaGreatDoor
