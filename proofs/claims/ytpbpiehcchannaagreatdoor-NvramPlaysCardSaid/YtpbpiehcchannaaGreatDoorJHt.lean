/- Walks of lintelref02: step, Extend, Sum. Walks of lintelref01: sized, Cut, Get, Put. Walks of lintelref01: GetBig, Get, low, Put. Walks of lintelref08: number, at, long, Room, head, Ready. Walks of lintelref08: Head, Format. Conditions: the premises of each law. -/
import Derived.Test.YtpbpiehcchannaaGreatDoorJHr
import Derived.Test.YtpbpiehcchannaaGreatDoorJRp1
import Derived.Test.YtpbpiehcchannaaGreatDoorJGa
import Derived.Test.YtpbpiehcchannaaGreatDoorJGk
namespace Go.Proofs.YtpbpiehcchannaaGreatDoor
open Go.RowKit
set_option linter.unusedVariables false
set_option linter.unusedSimpArgs false
set_option maxRecDepth 100000
set_option maxHeartbeats 1500000
theorem MP(x b:Nat)(hx:x≤4294967295)(hb:b<256):Spec Tryz.prog 223 [.val (.int .u32 (x:Int)),.val (.int .u32 (b:Int))] [] (bY (.val (.int .u32 (mX x b:Nat))) []):=by
 refine aq aj Tryz.func223 rfl Tryz.ntmps223 Tryz.results223 ?_
 have Qk:=qL (a:=(x:Int).toNat) (b:=(b:Int).toNat) (by omega) (by omega)
 have Ql:=qL (a:=((x:Int)/(2:Int)^(1:Int).toNat).toNat) (b:=(3988292384:Int).toNat) (by rw[show(2:Int)^(1:Int).toNat=2 from rfl];omega) (by decide)
 have MQ:(2:Int)^(1:Int).toNat=2:=rfl
 have hand:(((x:Int).toNat^^^(b:Int).toNat)&&&(1:Int).toNat)≤1:=Nat.and_le_right
 have hm:(((((x:Int).toNat^^^(b:Int).toNat:Nat):Int).toNat&&&(1:Int).toNat:Nat):Int)=((x^^^b)%2:Nat):=by
  rw[Int.toNat_natCast,Int.toNat_natCast,Int.toNat_natCast]
  exact congrArg Nat.cast (Nat.and_one_is_mod (x^^^b))
 have hs:((x:Int)/(2:Int)^(1:Int).toNat)=((x>>>1:Nat):Int):=by rw[MQ,Nat.shiftRight_eq_div_pow];omega
 refine gg (k:= ?_)
 rw[hm]
 unfold mX
 refine⟨fun h=> ?_,fun h=> ?_⟩
 ·rw[if_pos (by have:=of_decide_eq_true h;omega)]
  refine gg (k:= ?_)
  rw[hs]
  exact⟨_,rfl,rfl⟩
 ·rw[if_neg (by have:=of_decide_eq_false h;omega),Nat.xor_zero]
  refine gg (k:= ?_)
  rw[hs]
  exact⟨_,rfl,rfl⟩
theorem MR (b : List UInt8) (hb : b.length ≤ 140737488355328) (z : Nat) (x : Int) (hx : 0 ≤ x ∧ x ≤ 4294967295) : Spec Tryz.prog 220 [.val (.int .u32 x), .bs z b] []
   (bY (.val (.int .u32 (eN x b))) []):=by
 refine aq aj Tryz.func220 rfl Tryz.ntmps220 Tryz.results220 ?_
 unfold eN
 obtain⟨X0,MS⟩:∃X0:Nat,4294967295 - x=(X0:Int):=⟨(4294967295 - x).toNat,by omega⟩
 obtain⟨R,hR⟩:∃R,R=fo b (4294967295 - x):=⟨_,rfl⟩
 rw[←hR]
 refine gg (k:= ?_)
 (refine ax (k:= ?_))
 rw[MS] at hR⊢
 conv=>whnf
 refine bh (fun y:Nat×Nat=>∃j r X,r<8∧y.1=8*j+r∧y.1≤8*b.length∧X≤4294967295∧y.2=mY X (b.getD j 0).toNat r∧fo (b.drop j) (X:Int)=R) (fun y=>8*b.length - y.1) 0 [5,6,9,10,11,12,13,14,15,16,17,18,19,20,21,22,23,24,25,26,27] (fun y=>[(5,.val (.int .u32 (y.2:Int))),(6,.val (.int .i64 (y.1:Int)))]) (fun i=>[]) (0,X0) ⟨0,0,X0,by decide,rfl,Nat.zero_le _,by omega,rfl,hR.symm⟩ ?_ ?_ ?_
 ·exact no_implicit_lambda%ten
 ·exact no_implicit_lambda%az
 ·rintro⟨i,y⟩ v ⟨j,r,X,h1,h2,jG,h3,h5,h4⟩
  simp only at h1 h2 jG h3 h4 h5
  have ij:=(b.getD j 0).toNat_lt
  have nU:=Af X (b.getD j 0).toNat h3 (by omega) r
  rw[←h5] at nU
  refine bc (k:= ?_)
  refine gg (k:= ?_)
  refine⟨fun h=> ?_,fun h=> ?_⟩
  ·have hj:j<b.length:=by have:=of_decide_eq_true h;omega
   have MT:((i:Int)/8).toNat=j:=by omega
   have MU:((i:Int)%8%18446744073709551616).toNat=r:=by omega
   have qJ:(b.getD j 0).toNat>>>r<256:=by rw[Nat.shiftRight_eq_div_pow];exact Nat.lt_of_le_of_lt (Nat.div_le_self _ _) ij
   have MV:(((b.getD j 0).toNat:Int)/2^r%4294967296)=(((b.getD j 0).toNat>>>r:Nat):Int):=by
    rw[Nat.shiftRight_eq_div_pow] at qJ⊢
    have gR:(((b.getD j 0).toNat/2^r:Nat):Int)=((b.getD j 0).toNat:Int)/2^r:=by push_cast;rfl
    rw[←gR]
    generalize (b.getD j 0).toNat/2^r=q at qJ
    omega
   refine gg (k:= ?_)
   rw[MT,MU,MV]
   refine aP (MP y ((b.getD j 0).toNat>>>r) nU qJ) Tryz.call223 [] ?_
   refine gg (k:= ?_)
   have dY:mX y ((b.getD j 0).toNat>>>r)=mY X (b.getD j 0).toNat (r+1):=by rw[mY,h5]
   generalize mX y ((b.getD j 0).toNat>>>r)=y' at dY
   refine aM (i+1,y') ?_ (by show 8*b.length - (i+1)<8*b.length - i;omega) ?_ ?_
   ·by_cases MW:r=7
    ·have Fx:y'=mY X (b.getD j 0).toNat 8:=by rw[dY,MW]
     have Fy:=MX X (b.getD j 0).toNat ij
     rw[←Fx] at Fy
     refine⟨j+1,0,y',by decide,by show i+1=_;omega,by show i+1≤_;omega,by rw[Fx];exact Af X (b.getD j 0).toNat h3 (by omega) 8,rfl,?_⟩
     rw[←h4,Fy,List.drop_eq_getElem_cons hj,fo,List.getD_eq_getElem?_getD,List.getElem?_eq_getElem hj]
     rfl
    ·exact⟨j,r+1,X,by omega,by show i+1=_;omega,by show i+1≤_;omega,h3,dY,h4⟩
   ·exact no_implicit_lambda%ten
   ·exact no_implicit_lambda%az
  ·have hi:j=b.length∧r=0:=by have:=of_decide_eq_false h;omega
   obtain⟨rfl,rfl⟩:=hi
   rw[List.drop_length,fo] at h4
   have h6:y=X:=h5
   refine gg (k:= ?_)
   rw[←h4,←h6]
   exact⟨_,rfl,rfl⟩
theorem FA(b:List UInt8)(hb:b.length≤140737488355328)(z:Nat):Spec Tryz.prog 209 [.bs z b] [] (bY (.val (.int .u32 (eN 0 b))) []):=by
 refine aq aj Tryz.func209 rfl Tryz.ntmps209 Tryz.results209 ?_
 refine gg (k:= ?_)
 refine aP (MR b hb z 0 (by decide)) Tryz.call220 [] ?_
 refine gg (k:= ?_)
 exact⟨_,rfl,rfl⟩
end Go.Proofs.YtpbpiehcchannaaGreatDoor
namespace Go.Proofs.YtpbpiehcchannaaGreatDoor
open Go.RowKit
set_option linter.unusedVariables false
set_option linter.unusedSimpArgs false
set_option maxRecDepth 100000
set_option maxHeartbeats 1500000
theorem MY(n:Int):Spec Tryz.prog 181 [.val (.int .i64 n)] [] (bY (.val (.bool (decide (n=1∨n=2∨n=4∨n=8)))) []):=by
 refine aq aj Tryz.func181 rfl Tryz.ntmps181 Tryz.results181 ?_
 refine gg (k:= ?_)
 refine⟨_,congrArg AV.val (congrArg Value.bool ?_),rfl⟩
 rw[Bool.eq_iff_iff,Bool.or_eq_true,Bool.or_eq_true,Bool.or_eq_true,decide_eq_true_iff,decide_eq_true_iff,decide_eq_true_iff,decide_eq_true_iff,decide_eq_true_iff]
 omega
theorem Ag(n:Int)(hn:n=1∨n=2∨n=4∨n=8):Spec Tryz.prog 181 [.val (.int .i64 n)] [] (bY (.val (.bool true)) []):=by
 have h:=MY n
 rw[decide_eq_true hn] at h
 exact h
theorem FB(l:List UInt8)(hl:l.length≤140737488355328)(z:Nat):Spec Tryz.prog 212 [.bs z l] [] (ak (.own 6 2 1 0 l.length) [] [(6,⟨2,.bytes l⟩)]):=by
 refine aq aj Tryz.func212 rfl Tryz.ntmps212 Tryz.results212 ?_
 refine gg (k:= ?_)
 conv=>whnf
 refine⟨l,?_⟩
 conv=>whnf
 refine And.intro ⟨trivial,rfl,rfl,rfl,(by show l.length*1≤_;omega),by decide⟩ ?_
 refine gg (k:= ?_)
 refine⟨_,?_,rfl,rfl,trivial⟩
 simp only[jw,List.map_nil,List.length_nil,Nat.zero_add]
theorem MZ(l:List UInt8)(hl:l.length≤140737488355328)(z:Nat):Spec Tryz.prog 212 [.bs z l] [] (ak (.bs 0 l) [] []):=
 br (FB l hl z) (by simp[ef]) (AF.own rfl rfl) trivial
theorem FC(l:List UInt8)(hl:l.length≤140737488355328)(z:Nat)(a n:Nat)(hn:a+n≤l.length):Spec Tryz.prog 180 [.bs z l,.val (.int .i64 (a:Int)),.val (.int .i64 (n:Int))] [] (ak (.al [.bs 0 ((l.drop a).take n),.val (.bool true)]) [] []):=by
 refine aq aj Tryz.func180 rfl Tryz.ntmps180 Tryz.results180 ?_
 have e1:decide ((a:Int)<0)=false:=decide_eq_false (by omega)
 have e2:decide ((n:Int)<0)=false:=decide_eq_false (by omega)
 have e3:decide ((l.length:Int)< (a:Int))=false:=decide_eq_false (by omega)
 refine gg (k:= ?_)
 have M0:(l.take ((a:Int)+(n:Int)).toNat).drop (a:Int).toNat=(l.drop a).take n:=by rw[Int.toNat_natCast,show((a:Int)+(n:Int)).toNat=a+n by omega,List.drop_take,Nat.add_sub_cancel_left]
 rw[M0]
 refine ae (MZ ((l.drop a).take n) (by rw[List.length_take,List.length_drop];omega) z) Tryz.call212 0 [] [] [] ?_
 refine gg (k:= ?_)
 exact⟨_,rfl,rfl,trivial⟩
theorem M1(l:List UInt8)(hl:l.length≤140737488355328)(z:Nat):Spec Tryz.prog 183 [.bs z l] [] (ak (.bs 0 l.reverse) [] []):=by
 have h:Spec Tryz.prog 183 [.bs z l] [] (ak (.own 18 (l.length+1) 1 0 l.length) [] [(18,⟨l.length+1,.bytes l.reverse⟩)]):=by
  refine aq aj Tryz.func183 rfl Tryz.ntmps183 Tryz.results183 ?_
  refine gg (k:= ?_)
  (refine ax (k:= ?_))
  conv=>whnf
  refine lW (ia 18 1 (.bytes []) rfl (by decide) rfl (t':=[.bs z l,.any,.val (.slice none 0 0),.own 18 1 1 0 0,.val (.int .i64 ((l.length:Int) - 1)),.any,.any,.any,.any,.any,.any,.any,.any,.any,.any,.any,.any,.any,.any,.any]) ?_) ?_
  ·simp[iz]
  dsimp only[aH]
  refine bh (fun y:Nat×Int=>y.1≤l.length∧y.2=(l.length:Int) - 1 - y.1) (fun y=>l.length - y.1) 0 [3,4,8,9,10,11,12,13,14,15,16,17,18] (fun y=>[(3,.own 18 (y.1+1) 1 0 y.1),(4,.val (.int .i64 y.2))]) (fun y=>[(18,⟨y.1+1,.bytes (l.reverse.take y.1)⟩)]) (0,(l.length:Int) - 1) ⟨Nat.zero_le _,by show _=(l.length:Int) - 1 - (0:Nat);omega⟩ ?_ ?_ ?_
  ·exact no_implicit_lambda%ten
  ·exact no_implicit_lambda%az
  ·rintro⟨i,k⟩ u ⟨i1,hk⟩
   simp only at i1 hk
   have cY:(l.reverse.take i).length=i:=by rw[List.length_take,List.length_reverse];omega
   refine bc (k:= ?_)
   refine gg (k:= ?_)
   refine⟨fun h=> ?_,fun h=> ?_⟩
   ·have ai:i<l.length:=by have:=of_decide_eq_true h;omega
    refine gg (k:= ?_)
    have eG:l.reverse.take (i+1)=l.reverse.take i++[l.getD k.toNat 0]:=by
     rw[List.take_add_one,List.getElem?_reverse ai,show k.toNat=l.length - 1 - i by omega,List.getD_eq_getElem?_getD,List.getElem?_eq_getElem (by omega)]
     rfl
    obtain⟨c,hc⟩:∃c,c=l.getD k.toNat 0:=⟨_,rfl⟩
    rw[←hc] at eG⊢
    have ij:=c.toNat_lt
    conv=>whnf
    refine And.intro (by(simp[rZ,jJ,rM,Value.oneCell',eH,aZ,dB,bn,aT,nz,fZ,fj];try omega)) ?_
    refine gg (k:= ?_)
    conv=>whnf
    refine⟨[c],?_⟩
    conv=>whnf
    refine And.intro ⟨rfl,⟨rfl,rfl,by simp⟩,rfl,rfl,rfl,cY.symm,rfl,by simp,(by rw[cY];show(i+1)*1≤_;omega),by decide⟩ ?_
    rw[cY,←eG]
    refine gg (k:= ?_)
    refine aM (i+1,k - 1) ⟨ai,by show k - 1=(l.length:Int) - 1 - ((i+1:Nat):Int);omega⟩ (by show l.length - (i+1)<l.length - i;omega) ?_ ?_
    ·exact no_implicit_lambda%ten
    ·exact no_implicit_lambda%az
   ·obtain rfl:i=l.length:=by have:=of_decide_eq_false h;omega
    refine gg (k:= ?_)
    refine⟨_,rfl,rfl,?_,trivial⟩
    rw[List.take_of_length_le (by rw[List.length_reverse];exact Nat.le_refl _)]
    rfl
 exact br h (by simp[ef]) (AF.own rfl (List.length_reverse ..).symm) trivial
end Go.Proofs.YtpbpiehcchannaaGreatDoor
namespace Go.Proofs.YtpbpiehcchannaaGreatDoor
open Go.RowKit
set_option linter.unusedVariables false
set_option linter.unusedSimpArgs false
set_option maxRecDepth 100000
set_option maxHeartbeats 1500000
theorem M2(l:List UInt8)(n:Nat)(hn:n=l.length)(lq:n=2∨n=4)(z:Nat):Spec Tryz.prog 182 [.bs z l,.val (.int .i64 0),.val (.int .i64 (n:Int))] [] (ak (.al [.val (.int .u64 (cm l.reverse:Nat)),.val (.int .i64 0)]) [] []):=by
 subst hn
 refine aq aj Tryz.func182 rfl Tryz.ntmps182 Tryz.results182 ?_
 refine gg (k:= ?_)
 refine ae (FC l (by omega) z 0 l.length (by omega)) Tryz.call180 0 [] [] [] ?_
 rw[List.drop_zero,List.take_length]
 refine gg (k:= ?_)
 refine aP (Ag (l.length:Int) (by omega)) Tryz.call181 [] ?_
 refine gg (k:= ?_)
 (refine ax (k:= ?_))
 conv=>whnf
 refine bh (fun i:Nat=>i≤l.length) (fun i=>l.length - i) 0 [10,11,26,27,28,29,30,31,32,33,34,35,36,37,38] (fun i=>[(10,.val (.int .u64 (cm (l.take i).reverse:Nat))),(11,.val (.int .i64 (i:Int)))]) (fun i=>[]) 0 (Nat.zero_le _) ?_ ?_ ?_
 ·exact no_implicit_lambda%ten
 ·exact no_implicit_lambda%az
 ·rintro i u i1
  have ai:=k8 (l.take i).reverse
  rw[List.length_reverse,List.length_take,Nat.min_eq_left i1] at ai
  have hp:256^i≤256^4:=Nat.pow_le_pow_right (by decide) (by omega)
  have M3:(256:Nat)^4=4294967296:=by decide
  refine bc (k:= ?_)
  refine gg (k:= ?_)
  refine⟨fun h=> ?_,fun h=> ?_⟩
  ·have hi:i<l.length:=by have:=of_decide_eq_true h;omega
   have df:cm (l.take (i+1)).reverse=cm (l.take i).reverse*256+(l.getD i 0).toNat:=by
    rw[List.take_add_one,List.getElem?_eq_getElem hi,List.getD_eq_getElem?_getD,List.getElem?_eq_getElem hi]
    rw[Option.toList_some,List.reverse_append,List.reverse_singleton,List.singleton_append,cm,Option.getD_some]
    omega
   have ij:=(l.getD i 0).toNat_lt
   have jb:(((cm (l.take i).reverse:Nat):Int)*256%18446744073709551616+((l.getD (i:Int).toNat 0).toNat:Int)%18446744073709551616)%18446744073709551616=((cm (l.take (i+1)).reverse:Nat):Int):=by
    rw[Int.toNat_natCast]
    omega
   refine gg (k:= ?_)
   rw[jb]
   refine aM (i+1) hi (by show l.length - (i+1)<l.length - i;omega) ?_ ?_
   ·exact no_implicit_lambda%ten
   ·exact no_implicit_lambda%az
  ·obtain rfl:i=l.length:=by have:=of_decide_eq_false h;omega
   refine gg (k:= ?_)
   rw[List.take_length]
   exact⟨_,rfl,rfl,trivial⟩
theorem M4(l:List UInt8)(hl:l.length≤140737488355328)(a n:Nat)(lq:n=2∨n=4)(hn:a+n≤l.length)(z:Nat):Spec Tryz.prog 147 [.bs z l,.val (.int .i64 (a:Int)),.val (.int .i64 (n:Int))] [] (ak (.al [.val (.int .u64 (cm ((l.drop a).take n):Nat)),.val (.int .i64 0)]) [] []):=by
 have M5:((l.drop a).take n).length=n:=by rw[List.length_take,List.length_drop];omega
 refine aq aj Tryz.func147 rfl Tryz.ntmps147 Tryz.results147 ?_
 refine gg (k:= ?_)
 refine ae (FC l hl z a n hn) Tryz.call180 0 [] [] [] ?_
 refine gg (k:= ?_)
 refine aP (Ag (n:Int) (by omega)) Tryz.call181 [] ?_
 refine gg (k:= ?_)
 refine ae (M1 ((l.drop a).take n) (by omega) 0) Tryz.call183 0 [] [] [] ?_
 refine gg (k:= ?_)
 refine ae (M2 ((l.drop a).take n).reverse n (by rw[List.length_reverse,M5]) lq 0) Tryz.call182 0 [] [] [] ?_
 rw[List.reverse_reverse]
 refine gg (k:= ?_)
 exact⟨_,rfl,rfl,trivial⟩
theorem M6(x:Int)(hx:0≤x∧x≤18446744073709551615)(n:Nat)(lq:n=2∨n=4):Spec Tryz.prog 213 [.val (.int .u64 x),.val (.int .i64 (n:Int))] [] (ak (.bs 0 (cd n x)) [] []):=by
 have h:Spec Tryz.prog 213 [.val (.int .u64 x),.val (.int .i64 (n:Int))] [] (ak (.own 21 (n+1) 1 0 n) [] [(21,⟨n+1,.bytes (cd n x)⟩)]):=by
  refine aq aj Tryz.func213 rfl Tryz.ntmps213 Tryz.results213 ?_
  refine gg (k:= ?_)
  (refine ax (k:= ?_))
  conv=>whnf
  refine lW (ia 21 1 (.bytes []) rfl (by decide) rfl (t':=[.val (.int .u64 x),.val (.int .i64 (n:Int)),.any,.any,.val (.slice none 0 0),.own 21 1 1 0 0,.val (.int .i64 0),.any,.any,.any,.any,.any,.any,.any,.any,.any,.any,.any,.any,.any,.any,.any,.any,.any,.any]) ?_) ?_
  ·simp[iz]
  dsimp only[aH]
  refine bh (fun y:Nat×Int=>y.1≤n∧0≤y.2∧y.2≤18446744073709551615∧y.2=x/2^(8*(y.1:Int)).toNat) (fun y=>n - y.1) 0 [0,5,6,7,8,9,10,11,12,13,14,15,16,17,18,19,20,21,22,23] (fun y=>[(0,.val (.int .u64 y.2)),(5,.own 21 (y.1+1) 1 0 y.1),(6,.val (.int .i64 (y.1:Int)))]) (fun y=>[(21,⟨y.1+1,.bytes (cd y.1 x)⟩)]) (0,x) ⟨Nat.zero_le _,hx.1,hx.2,by show x=x/1;rw[Int.ediv_one]⟩ ?_ ?_ ?_
  ·exact no_implicit_lambda%ten
  ·exact no_implicit_lambda%az
  ·rintro⟨i,k⟩ u ⟨i1,k1,k2,hk⟩
   simp only at i1 k1 k2 hk
   have cY:=gO i x
   refine bc (k:= ?_)
   have M7:k%256=x/2^(8*(i:Int)).toNat%256:=by rw[hk]
   by_cases hi:i<n
   ·have c7:decide ((i:Int)< (n:Int))=true:=decide_eq_true (by omega)
    refine gg (k:= ?_)
    conv=>whnf
    refine bD (hq:=c7) (hA:=fun hG=>⟨trivial,hG,trivial⟩) (k:= ?_)
    refine aP (Ag (n:Int) (by omega)) Tryz.call181 [] ?_
    refine gg (k:= ?_)
    refine⟨fun h=> ?_,fun h=>absurd c7 (by rw[Bool.and_true] at h;rw[h];decide)⟩
    have eG:cd (i+1) x=cd i x++[UInt8.ofNat (k%256%256).toNat]:=by rw[zb,←M7,Int.emod_emod]
    have k9:0≤k%256%256∧k%256%256≤255:=by omega
    have cu:k/256=x/2^(8*((i+1:Nat):Int)).toNat:=by
     rw[hk,Int.ediv_ediv_of_nonneg (Int.pow_nonneg (by decide)),show(8*((i+1:Nat):Int)).toNat=(8*(i:Int)).toNat+8 by omega,Int.pow_add]
     rfl
    refine gg (k:= ?_)
    obtain⟨c,hc⟩:∃c,c=k%256%256:=⟨_,rfl⟩
    rw[←hc] at eG k9⊢
    conv=>whnf
    refine⟨[UInt8.ofNat c.toNat],?_⟩
    conv=>whnf
    refine And.intro ⟨rfl,⟨rfl,rfl,by first | (simp;done) | decide⟩,rfl,rfl,rfl,cY.symm,rfl,by first | rfl | (simp;done),(by rw[cY];show(i+1)*1≤_;omega),by decide⟩ ?_
    rw[cY,←eG]
    refine gg (k:= ?_)
    refine aM (i+1,k/256) ⟨hi,by show 0≤k/256;omega,by show k/256≤_;omega,cu⟩ (by show n - (i+1)<n - i;omega) ?_ ?_
    ·exact no_implicit_lambda%ten
    ·exact no_implicit_lambda%az
   ·obtain rfl:i=n:=by omega
    have c7:decide ((i:Int)< (i:Int))=false:=decide_eq_false (by omega)
    refine gg (k:= ?_)
    intro _
    refine gg (k:= ?_)
    exact⟨_,rfl,rfl,rfl,trivial⟩
 exact br h (by simp[ef]) (AF.own rfl (gO n x).symm) trivial
theorem FD(l:List UInt8)(hl:l.length≤1000000)(z:Nat)(x:Int)(hx:0≤x∧x≤18446744073709551615)(n:Nat)(lq:n=2∨n=4):Spec Tryz.prog 185 [.bs z l,.val (.int .u64 x),.val (.int .i64 (n:Int))] [] (ak (.own 14 4 1 0 (l.length+n)) [] [(14,⟨4,.bytes (l++cd n x)⟩)]):=by
 have cY:=gO n x
 refine aq aj Tryz.func185 rfl Tryz.ntmps185 Tryz.results185 ?_
 refine gg (k:= ?_)
 refine ae (FB l (by omega) z) Tryz.call212 0 [0,0,0,0,0,0,14] [0,0,0,0,0,0,1] [6] ?_
 refine gg (k:= ?_)
 refine ae (M6 x hx n lq) Tryz.call213 0 [] [] [] ?_
 refine gg (k:= ?_)
 conv=>whnf
 refine⟨cd n x,?_⟩
 conv=>whnf
 refine And.intro ⟨rfl,trivial,rfl,rfl,rfl,rfl,rfl,rfl,(by rw[cY];show(l.length+n)*1≤_;omega),by decide⟩ ?_
 rw[cY]
 refine gg (k:= ?_)
 exact⟨_,rfl,rfl,rfl,trivial⟩
theorem Ah(l:List UInt8)(hl:l.length≤1000000)(z:Nat)(x:Int)(hx:0≤x∧x≤18446744073709551615)(n:Nat)(lq:n=2∨n=4)(R:List UInt8)(hR:R=l++cd n x):Spec Tryz.prog 185 [.bs z l,.val (.int .u64 x),.val (.int .i64 (n:Int))] [] (ak (.bs 0 R) [] []):=by
 subst hR
 exact br (FD l hl z x hx n lq) (by simp[ef]) (AF.own rfl (by rw[List.length_append,gO])) trivial
theorem FE(l:List UInt8)(L:Nat)(hL:L=l.length)(hl:L≤1000000)(v:Nat)(x:Int)(hx:0≤x∧x≤18446744073709551615)(n:Nat)(lq:n=2∨n=4)(R:List UInt8)(hR:R=l++cd n x):Spec Tryz.prog 185 [.own 0 v 1 0 L,.val (.int .u64 x),.val (.int .i64 (n:Int))] [⟨v,.bytes l⟩] (ak (.bs 0 R) [⟨v,.bytes l⟩] []):=by
 subst hL hR
 have h:=pq (l:=l) 0 l.length (by omega) (FD ((l.drop 0).take l.length) (by rw[whole];exact hl) 0 x hx n lq) trivial ⟨trivial,trivial⟩ (fun _=>du lR (du lR fT)) v
 rw[whole] at h
 exact br h (by simp[ef,oS,kz]) (AF.own rfl (by rw[List.length_append,gO])) ⟨rfl,BF.same,trivial⟩
theorem M8(l:List UInt8)(L:Nat)(hL:L=l.length)(hl:l.length≤140737488355328)(v:Nat):Spec Tryz.prog 209 [.own 0 v 1 0 L] [⟨v,.bytes l⟩] (ak (.val (.int .u32 (eN 0 l))) [⟨v,.bytes l⟩] []):=by
 subst hL
 have h:=pq (l:=l) 0 l.length (by omega) (lT (FA ((l.drop 0).take l.length) (by rw[whole];exact hl) 0)) trivial trivial (fun _=>fT) v
 rw[whole] at h
 exact h
end Go.Proofs.YtpbpiehcchannaaGreatDoor
namespace Go.Proofs.YtpbpiehcchannaaGreatDoor
open Go.RowKit
set_option linter.unusedVariables false
set_option linter.unusedSimpArgs false
set_option maxRecDepth 100000
set_option maxHeartbeats 1500000
theorem Ai(l:List UInt8)(hl:l.length≤140737488355328)(a n:Nat)(lq:n=2∨n=4)(hn:a+n≤l.length)(z:Nat):Spec Tryz.prog 207 [.bs z l,.val (.int .i64 (a:Int)),.val (.int .i64 (n:Int))] [] (ak (.val (.int .i64 (cm ((l.drop a).take n):Nat))) [] []):=by
 have hb:=k8 ((l.drop a).take n)
 have hp:256^((l.drop a).take n).length≤256^4:=Nat.pow_le_pow_right (by decide) (by rw[List.length_take];omega)
 have M3:(256:Nat)^4=4294967296:=by decide
 refine aq aj Tryz.func207 rfl Tryz.ntmps207 Tryz.results207 ?_
 refine gg (k:= ?_)
 refine ae (M4 l hl a n lq hn z) Tryz.call147 0 [] [] [] ?_
 refine gg (k:= ?_)
 exact⟨_,rfl,rfl,trivial⟩
theorem mZ{X:Nat}(s:J)(a c:Nat)(h:lf s a c)(p:Int)(hp:aG (a*s.k+p))(vb v0 v1:Nat):Spec Tryz.prog 173 [.ref 0 vb 3 0 0,.val (.int .i64 p)] [⟨vb,.obj [.ref 1 v0 7 0 0,.val (.int .i64 (a:Int)),.val (.int .i64 (c:Int))]⟩,⟨v0,.obj [.own 2 v1 1 0 s.l.length,.val (.int .i64 (X:Int)),.val (.int .i64 (s.k:Int)),.val (.int .i64 s.ar),.val (.int .i64 s.pt),.val (.bool s.dd),.val (.int .i64 s.wr)]⟩,⟨v1,.bytes s.l⟩] (bY (.val (.int .i64 ((a:Int)*s.k+p))) [⟨vb,.obj [.ref 1 v0 7 0 0,.val (.int .i64 (a:Int)),.val (.int .i64 (c:Int))]⟩,⟨v0,.obj [.own 2 v1 1 0 s.l.length,.val (.int .i64 (X:Int)),.val (.int .i64 (s.k:Int)),.val (.int .i64 s.ar),.val (.int .i64 s.pt),.val (.bool s.dd),.val (.int .i64 s.wr)]⟩,⟨v1,.bytes s.l⟩]):=by
 have hi:=h.int
 have hl:=h.len
 unfold aG at hp
 refine aq aj Tryz.func173 rfl Tryz.ntmps173 Tryz.results173 ?_
 refine gg (k:= ?_)
 (refine ax (k:= ?_))
 refine bz (p:=3) aj hm [0,1,3,7,0,16,48,112,240,496,1008,2047,0,8191,16383] [⟨0,false,false,[]⟩,⟨1,true,false,[7,8,9,10,11,12,13,14,15,16,17,18,4]⟩,⟨2,true,false,[8,9,10,11,12,13,14,15,16,17,18,4]⟩,⟨3,true,false,[9,10,11,12,13,14,15,16,17,18,4]⟩,⟨4,false,false,[]⟩,⟨5,true,false,[5,6,7,8,11,12,13,14,15,16,17,18,4]⟩,⟨6,true,false,[5,6,7,8,12,13,14,15,16,17,18,4]⟩,⟨7,true,false,[5,6,7,8,13,14,15,16,17,18,4]⟩,⟨8,true,false,[5,6,7,8,14,15,16,17,18,4]⟩,⟨9,true,false,[5,6,7,8,15,16,17,18,4]⟩,⟨10,true,false,[5,6,7,8,16,17,18,4]⟩,⟨11,false,false,[]⟩,⟨12,false,false,[]⟩,⟨13,false,false,[]⟩,⟨14,false,false,[]⟩] (by kernel_rfl) ?_
 refine gg (k:= ?_)
 exact⟨_,rfl,rfl⟩
theorem vW{X:Nat}(s:J)(a c:Nat)(h:lf s a c)(vb v0 v1:Nat):Spec Tryz.prog 140 [.ref 0 vb 3 0 0] [⟨vb,.obj [.ref 1 v0 7 0 0,.val (.int .i64 (a:Int)),.val (.int .i64 (c:Int))]⟩,⟨v0,.obj [.own 2 v1 1 0 s.l.length,.val (.int .i64 (X:Int)),.val (.int .i64 (s.k:Int)),.val (.int .i64 s.ar),.val (.int .i64 s.pt),.val (.bool s.dd),.val (.int .i64 s.wr)]⟩,⟨v1,.bytes s.l⟩] (bY (.val (.int .i64 ((c:Int)*s.k))) [⟨vb,.obj [.ref 1 v0 7 0 0,.val (.int .i64 (a:Int)),.val (.int .i64 (c:Int))]⟩,⟨v0,.obj [.own 2 v1 1 0 s.l.length,.val (.int .i64 (X:Int)),.val (.int .i64 (s.k:Int)),.val (.int .i64 s.ar),.val (.int .i64 s.pt),.val (.bool s.dd),.val (.int .i64 s.wr)]⟩,⟨v1,.bytes s.l⟩]):=by
 have hi:=h.int
 have hl:=h.len
 refine aq aj Tryz.func140 rfl Tryz.ntmps140 Tryz.results140 ?_
 refine gg (k:= ?_)
 (refine ax (k:= ?_))
 refine bz (p:=3) aj hm [0,1,3,7,0,16,48,112,240,496,1008,2047,4095] [⟨0,false,false,[]⟩,⟨1,true,false,[5,6,7,8,9,10,11,12,13,14,2]⟩,⟨2,true,false,[6,7,8,9,10,11,12,13,14,2]⟩,⟨3,true,false,[7,8,9,10,11,12,13,14,2]⟩,⟨4,false,false,[]⟩,⟨5,true,false,[3,4,5,6,9,10,11,12,13,14,2]⟩,⟨6,true,false,[3,4,5,6,10,11,12,13,14,2]⟩,⟨7,true,false,[3,4,5,6,11,12,13,14,2]⟩,⟨8,true,false,[3,4,5,6,12,13,14,2]⟩,⟨9,true,false,[3,4,5,6,13,14,2]⟩,⟨10,true,false,[3,4,5,6,14,2]⟩,⟨11,false,false,[]⟩,⟨12,false,false,[]⟩] (by kernel_rfl) ?_
 refine gg (k:= ?_)
 exact⟨_,rfl,rfl⟩
theorem M9{X:Nat}(s:J)(a c:Nat)(h:lf s a c)(vb v0 v1:Nat):Spec Tryz.prog 95 [.ref 0 vb 3 0 0] [⟨vb,.obj [.ref 1 v0 7 0 0,.val (.int .i64 (a:Int)),.val (.int .i64 (c:Int))]⟩,⟨v0,.obj [.own 2 v1 1 0 s.l.length,.val (.int .i64 (X:Int)),.val (.int .i64 (s.k:Int)),.val (.int .i64 s.ar),.val (.int .i64 s.pt),.val (.bool s.dd),.val (.int .i64 s.wr)]⟩,⟨v1,.bytes s.l⟩] (bY (.val (.int .i64 ((c:Int)*s.k - 16))) [⟨vb,.obj [.ref 1 v0 7 0 0,.val (.int .i64 (a:Int)),.val (.int .i64 (c:Int))]⟩,⟨v0,.obj [.own 2 v1 1 0 s.l.length,.val (.int .i64 (X:Int)),.val (.int .i64 (s.k:Int)),.val (.int .i64 s.ar),.val (.int .i64 s.pt),.val (.bool s.dd),.val (.int .i64 s.wr)]⟩,⟨v1,.bytes s.l⟩]):=by
 have hi:=h.int
 have hl:=h.len
 refine aq aj Tryz.func95 rfl Tryz.ntmps95 Tryz.results95 ?_
 refine gg (k:= ?_)
 refine aP (vW s a c h vb v0 v1) Tryz.call140 [0,1,2] ?_
 refine gg (k:= ?_)
 exact⟨_,rfl,rfl⟩
theorem FF(g:Int)(hg:0≤g∧g≤4294967295):Spec Tryz.prog 174 [.val (.int .u32 g)] [] (ak (.bs 0 (dE g)) [] []):=by
 have hb:=pv (gy g) (x:=0) (by decide)
 refine aq aj Tryz.func174 rfl Tryz.ntmps174 Tryz.results174 ?_
 refine gg (k:= ?_)
 refine ae (FE [76,78,84,76] 4 rfl (by decide) 1 (g%18446744073709551616) (by omega) 4 (by decide) (gy g) (by rw[show g%18446744073709551616=g by omega];rfl)) Tryz.call185 1 [4] [0] [] ?_
 refine gg (k:= ?_)
 refine aP (FA (gy g) (by rw[qN];decide) 0) Tryz.call209 [] ?_
 refine gg (k:= ?_)
 refine ae (Ah (gy g) (by rw[qN];decide) 0 (eN 0 (gy g)%18446744073709551616) (by omega) 4 (by decide) (dE g) (by rw[show eN 0 (gy g)%18446744073709551616=eN 0 (gy g) by omega];rfl)) Tryz.call185 0 [] [] [] ?_
 refine gg (k:= ?_)
 exact⟨_,rfl,rfl,trivial⟩
theorem vX(s:J)(ha:aG s.ar)(hw:0≤s.wr∧s.wr≤1000000000000000000)(hl:s.l.length≤140737488355328)(m:List UInt8)(n:Nat)(hn:n=m.length)(eX:m.length≤140737488355328)(a:Int)(pJ:aG a)(x:Nat)(v0 v1 v2:Nat):Spec Tryz.prog 172 [.ref 0 v0 7 0 0,.val (.int .i64 a),.own 2 v2 1 0 n] [⟨v0,.obj [.own 1 v1 1 0 s.l.length,.val (.int .i64 (x:Int)),.val (.int .i64 (s.k:Int)),.val (.int .i64 s.ar),.val (.int .i64 s.pt),.val (.bool s.dd),.val (.int .i64 s.wr)]⟩,⟨v1,.bytes s.l⟩,⟨v2,.bytes m⟩] (ak (.val (.int .i64 (s.prog a m).1)) [⟨v0,.obj [.own 1 v1 1 0 (s.prog a m).2.l.length,.val (.int .i64 (x:Int)),.val (.int .i64 ((s.prog a m).2.k:Int)),.val (.int .i64 (s.prog a m).2.ar),.val (.int .i64 (s.prog a m).2.pt),.val (.bool (s.prog a m).2.dd),.val (.int .i64 (s.prog a m).2.wr)]⟩,⟨v1,.bytes (s.prog a m).2.l⟩,⟨v2,.bytes m⟩] []):=by
 subst hn
 have e:=whole m
 have h:=oX (Ab 0 s ha hw hl ((m.drop 0).take m.length) (by rw[e];exact eX) a pJ x v0 v1) (R:=[⟨v2,.bytes m⟩]) (args:=[.ref 0 v0 7 0 0,.val (.int .i64 a),.own 2 v2 1 0 m.length])
  trivial ⟨⟨trivial,trivial,trivial,trivial,trivial,trivial,trivial,trivial⟩,trivial,trivial⟩ ⟨⟨(by decide:1<2),trivial,trivial,trivial,trivial,trivial,trivial,trivial⟩,trivial,trivial⟩ ⟨⟨trivial,trivial,trivial,trivial,trivial,trivial,trivial,trivial⟩,trivial,trivial⟩ rfl trivial trivial
  (gx (mL trivial (by decide:0<2)) (gx (mL trivial trivial) (gx (o0 (q:=0) (l:=m) rfl (by omega)) oY)))
 rw[e] at h
 exact h
theorem Aj {W : Int} {n k X : Nat} (s : J) (a c : Nat) (g : av W n k s) (hW : W ≤ 9000000000000000) (p : aC n k a c) (vb v0 v1 : Nat) : Spec Tryz.prog 131 [.ref 0 vb 3 0 0] [⟨vb, .obj [.ref 1 v0 7 0 0, .val (.int .i64 (a : Int)), .val (.int .i64 (c : Int))]⟩, ⟨v0, .obj [.own 2 v1 1 0 s.l.length, .val (.int .i64 (X : Int)), .val (.int .i64 (s.k : Int)), .val (.int .i64 s.ar), .val (.int .i64 s.pt), .val (.bool s.dd), .val (.int .i64 s.wr)]⟩, ⟨v1, .bytes s.l⟩]
   (ak (.val (.int .i64 (s.prog ((a:Int)*s.k+12) [254]).1)) [⟨vb,.obj [.ref 1 v0 7 0 0,.val (.int .i64 (a:Int)),.val (.int .i64 (c:Int))]⟩,⟨v0,.obj [.own 2 v1 1 0 (s.prog ((a:Int)*s.k+12) [254]).2.l.length,.val (.int .i64 (X:Int)),.val (.int .i64 ((s.prog ((a:Int)*s.k+12) [254]).2.k:Int)),.val (.int .i64 (s.prog ((a:Int)*s.k+12) [254]).2.ar),.val (.int .i64 (s.prog ((a:Int)*s.k+12) [254]).2.pt),.val (.bool (s.prog ((a:Int)*s.k+12) [254]).2.dd),.val (.int .i64 (s.prog ((a:Int)*s.k+12) [254]).2.wr)]⟩,⟨v1,.bytes (s.prog ((a:Int)*s.k+12) [254]).2.l⟩] []):=by
 have h:=g.eZ p
 have hi:=h.int
 have hl:=h.len
 have hw:=g.wr
 refine aq aj Tryz.func131 rfl Tryz.ntmps131 Tryz.results131 ?_
 refine gg (k:= ?_)
 (refine ax (k:= ?_))
 refine bz (p:=3) aj hm [0,1,3,7,0,16,0,127,255] [⟨0,false,false,[]⟩,⟨1,true,false,[7,8,9,10,11,12,2]⟩,⟨2,true,false,[8,9,10,11,12,2]⟩,⟨3,true,false,[9,10,11,12,2]⟩,⟨4,false,false,[]⟩,⟨6,true,false,[5,6,7,8,9,10,12,2]⟩,⟨5,true,false,[5,6,7,8,11,12,2]⟩,⟨7,true,true,[2]⟩,⟨8,false,false,[]⟩] (by kernel_rfl) ?_
 refine gg (k:= ?_)
 refine aP (mZ s a c h 12 (by unfold aG;omega) vb v0 v1) Tryz.call173 [0,1,2] ?_
 refine gg (k:= ?_)
 refine ae (vX s g.ar (by omega) (by omega) [254] 1 rfl (by decide) ((a:Int)*s.k+12) (by unfold aG;omega) X v0 v1 1) Tryz.call172 3 [1,2,14] [0,0,0] [] ?_
 refine gg (k:= ?_)
 exact⟨_,rfl,rfl,trivial⟩
end Go.Proofs.YtpbpiehcchannaaGreatDoor
namespace Go.Proofs.YtpbpiehcchannaaGreatDoor
open Go.RowKit
set_option linter.unusedVariables false
set_option linter.unusedSimpArgs false
set_option maxRecDepth 100000
set_option maxHeartbeats 1500000
theorem Na(L:List UInt8):(L.take 16).take 12=(L.take 13).take 12∧((L.take 16).drop 4).take 4=((L.take 13).drop 4).take 4∧(L.take 16).getD 12 0=(L.take 13).getD 12 0:=by
 refine⟨by rw[List.take_take,List.take_take];rfl,by rw[List.drop_take,List.drop_take,List.take_take,List.take_take];rfl,?_⟩
 simp only[List.getD_eq_getElem?_getD,List.getElem?_take]
 rfl
theorem FG {W : Int} {n k X : Nat} (s : J) (a c : Nat) (g : av W n k s) (p : aC n k a c) (vb v0 v1 : Nat) : Spec Tryz.prog 170 [.ref 0 vb 3 0 0] [⟨vb, .obj [.ref 1 v0 7 0 0, .val (.int .i64 (a : Int)), .val (.int .i64 (c : Int))]⟩, ⟨v0, .obj [.own 2 v1 1 0 s.l.length, .val (.int .i64 (X : Int)), .val (.int .i64 (s.k : Int)), .val (.int .i64 s.ar), .val (.int .i64 s.pt), .val (.bool s.dd), .val (.int .i64 s.wr)]⟩, ⟨v1, .bytes s.l⟩]
   (ak (.al [.val (.int .u32 (s.head a).1),.val (.bool (s.head a).2.1),.val (.int .i64 (s.head a).2.2)]) [⟨vb,.obj [.ref 1 v0 7 0 0,.val (.int .i64 (a:Int)),.val (.int .i64 (c:Int))]⟩,⟨v0,.obj [.own 2 v1 1 0 s.l.length,.val (.int .i64 (X:Int)),.val (.int .i64 (s.k:Int)),.val (.int .i64 s.ar),.val (.int .i64 s.pt),.val (.bool s.dd),.val (.int .i64 s.wr)]⟩,⟨v1,.bytes s.l⟩] []):=by
 have h:=g.eZ p
 have hi:=h.int
 have hl:=h.len
 have hb:=p.fa
 have eA:=g.len
 have Ak:=g.l
 refine aq aj Tryz.func170 rfl Tryz.ntmps170 Tryz.results170 ?_
 refine gg (k:= ?_)
 (refine ax (k:= ?_))
 refine bz (p:=3) aj hm [0,1,3,7,0,16,63,127,255,255,511,2047] [⟨0,false,false,[]⟩,⟨1,true,false,[13,14,15,16,17,10,18,19,5,6]⟩,⟨2,true,false,[14,15,16,17,10,18,19,5,6]⟩,⟨3,true,false,[15,16,17,10,18,19,5,6]⟩,⟨4,false,false,[]⟩,⟨5,true,false,[11,12,13,14,17,10,18,19,5,6]⟩,⟨6,true,true,[10,18,19,5,6]⟩,⟨7,false,false,[]⟩,⟨8,false,false,[]⟩,⟨9,false,false,[]⟩,⟨10,false,false,[]⟩,⟨11,false,false,[]⟩] (by kernel_rfl) ?_
 refine gg (k:= ?_)
 refine aP (mZ s a c h 0 (by unfold aG;omega) vb v0 v1) Tryz.call173 [0,1,2] ?_
 rw[Int.add_zero]
 refine gg (k:= ?_)
 refine ae (Ac s (by omega) X ((a:Int)*s.k) 13 (by unfold aG;omega) (by unfold aG;omega) v0 v1) Tryz.call206 2 [1,2] [0,0] [] ?_
 rcases qU g p 13 (by omega) with⟨hd,hr⟩ | ⟨hd,hr,hx⟩
 ·rw[show((13:Nat):Int)=13 from rfl] at hr
  rw[hr]
  refine gg (k:= ?_)
  refine⟨_,?_,rfl,trivial⟩
  unfold J.head;rw[hd];rfl
 rw[show((13:Nat):Int)=13 from rfl] at hr
 rw[hr]
 obtain⟨e1,e2,e3⟩:=Na (s.l.drop (a*k))
 unfold J.head
 rw[hd,g.k,e1,e2,e3]
 generalize ((s.l.drop (a*k)).take 13)=x at hx hr
 clear e1 e2 e3
 refine gg (k:= ?_)
 refine ae (Ai x (by omega) 4 4 (.inr rfl) (by omega) 0) Tryz.call207 0 [] [] [] ?_
 have hn:=k8 ((x.drop 4).take 4)
 have ot:((x.drop 4).take 4).length=4:=by rw[List.length_take,List.length_drop];omega
 rw[ot] at hn
 refine gg (k:= ?_)
 (refine ax (k:= ?_))
 refine bz (p:=3) aj hm [0,1,3,0,8,24,63] [⟨0,false,false,[]⟩,⟨1,true,false,[28,29,30,31,32]⟩,⟨2,true,false,[29,30,31,32]⟩,⟨3,false,false,[]⟩,⟨4,true,false,[26,27,28,31,32]⟩,⟨5,true,false,[26,27,28,32]⟩,⟨6,false,false,[]⟩] (by kernel_rfl) ?_
 refine gg (k:= ?_)
 have hG:((cm ((x.drop 4).take 4):Nat):Int)%4294967296=(cm ((x.drop 4).take 4):Nat):=by omega
 rw[hG]
 generalize KN:cm ((x.drop 4).take 4)=G at hn
 have iO:(x.take (12:Int).toNat).drop (0:Int).toNat=x.take 12:=rfl
 rw[iO]
 refine ae (FF (G:Int) (by omega)) Tryz.call174 0 [] [] [] ?_
 refine gg (k:= ?_)
 rw[vo]
 refine⟨fun h=> ?_,fun h=> ?_⟩
 ·have aF:¬x.take 12=dE G:=by simpa using h
  refine gg (k:= ?_)
  rw[if_neg aF]
  exact⟨_,rfl,rfl,trivial⟩
 ·have he:x.take 12=dE G:=by simpa using h
  refine gg (k:= ?_)
  (refine ax (k:= ?_))
  refine bz (p:=3) aj hm [0,0,2,6,14,1,63,127] [⟨0,false,false,[]⟩,⟨1,false,false,[]⟩,⟨2,true,false,[33,36,37,2,3,4]⟩,⟨3,true,false,[33,37,2,3,4]⟩,⟨4,false,false,[]⟩,⟨5,false,false,[]⟩,⟨6,false,false,[]⟩,⟨7,false,false,[]⟩] (by kernel_rfl) ?_
  refine gg (k:= ?_)
  rw[if_pos he]
  exact⟨_,rfl,rfl,trivial⟩
theorem Al {W : Int} {n k X : Nat} (s : J) (a c : Nat) (g : av W n k s) (hW : W ≤ 9000000000000000) (hX : s.l.length = X * s.k) (p : aC n k a c) (gen : Int) (lY : 0 ≤ gen ∧ gen ≤ 4294967295) (vb v0 v1 : Nat) : Spec Tryz.prog 130 [.ref 0 vb 3 0 0, .val (.int .u32 gen)] [⟨vb, .obj [.ref 1 v0 7 0 0, .val (.int .i64 (a : Int)), .val (.int .i64 (c : Int))]⟩, ⟨v0, .obj [.own 2 v1 1 0 s.l.length, .val (.int .i64 (X : Int)), .val (.int .i64 (s.k : Int)), .val (.int .i64 s.ar), .val (.int .i64 s.pt), .val (.bool s.dd), .val (.int .i64 s.wr)]⟩, ⟨v1, .bytes s.l⟩]
   (ak (.val (.int .i64 (s.format a c gen).1)) [⟨vb,.obj [.ref 1 v0 7 0 0,.val (.int .i64 (a:Int)),.val (.int .i64 (c:Int))]⟩,⟨v0,.obj [.own 2 v1 1 0 (s.format a c gen).2.l.length,.val (.int .i64 (X:Int)),.val (.int .i64 ((s.format a c gen).2.k:Int)),.val (.int .i64 (s.format a c gen).2.ar),.val (.int .i64 (s.format a c gen).2.pt),.val (.bool (s.format a c gen).2.dd),.val (.int .i64 (s.format a c gen).2.wr)]⟩,⟨v1,.bytes (s.format a c gen).2.l⟩] []):=by
 have zu:=p.ac
 have hb:=p.fa
 have fy:=p.fit
 refine aq aj Tryz.func130 rfl Tryz.ntmps130 Tryz.results130 ?_
 refine gg (k:= ?_)
 (refine ax (k:= ?_))
 conv=>whnf
 refine bh (fun i:Nat=>i≤c∧(s.bC a i).1=0) (fun i=>c - i) 3 [4,5,6,9,10,11,12,13,14,15,16,17,18,19,20,21,22,23,24,25,26,27,28,29,30] (fun i=>[(5,.val (.int .i64 (i:Int)))]) (fun i=>[(0,⟨vb,.obj [.ref 1 v0 7 0 0,.val (.int .i64 (a:Int)),.val (.int .i64 (c:Int))]⟩),(1,⟨v0,.obj [.own 2 v1 1 0 (s.bC a i).2.l.length,.val (.int .i64 (X:Int)),.val (.int .i64 ((s.bC a i).2.k:Int)),.val (.int .i64 (s.bC a i).2.ar),.val (.int .i64 (s.bC a i).2.pt),.val (.bool (s.bC a i).2.dd),.val (.int .i64 (s.bC a i).2.wr)]⟩),(2,⟨v1,.bytes (s.bC a i).2.l⟩)]) 0 ⟨Nat.zero_le _,rfl⟩ ?_ ?_ ?_
 ·exact no_implicit_lambda%ten
 ·exact no_implicit_lambda%az
 ·rintro i v ⟨h1,h2⟩
  refine bc (k:= ?_)
  refine gg (k:= ?_)
  have hS:s.bC a (i+1)=(s.bC a i).2.erase ((a:Int)+i):=by rw[J.bC,if_pos h2]
  have gi:=g.bC a i
  have KO:=g.bC a (i+1)
  have zv:=gi.wr
  have Nb:(s.bC a i).2.l.length=X*(s.bC a i).2.k:=by rw[gi.l,gi.k,←g.l,hX,g.k]
  refine⟨fun h=> ?_,fun h=> ?_⟩
  ·have hi:i<c:=by have:=of_decide_eq_true h;omega
   refine gg (k:= ?_)
   (refine ax (k:= ?_))
   refine bz (p:=3) aj hm [0,1,3,7,0,16,48,112,0,496,1023,2047] [⟨0,false,false,[]⟩,⟨1,true,false,[19,20,21,22,23,24,25,26,27,6]⟩,⟨2,true,false,[20,21,22,23,24,25,26,27,6]⟩,⟨3,true,false,[21,22,23,24,25,26,27,6]⟩,⟨4,false,false,[]⟩,⟨5,true,false,[17,18,19,20,23,24,25,26,27,6]⟩,⟨6,true,false,[17,18,19,20,24,25,26,27,6]⟩,⟨7,true,false,[17,18,19,20,25,26,27,6]⟩,⟨8,false,false,[]⟩,⟨9,false,false,[]⟩,⟨10,true,true,[6]⟩,⟨11,false,false,[]⟩] (by kernel_rfl) ?_
   refine gg (k:= ?_)
   refine ae (MD (s.bC a i).2 gi.ar gi.pt (by omega) X Nb (by have:=gi.l;have:=gi.len;omega) (by rw[gi.k];exact gi.kk) ((a:Int)+i) (by unfold aG;omega) v0 v1) Tryz.call171 2 [1,2] [0,0] [] ?_
   rw[←hS]
   refine gg (k:= ?_)
   refine⟨fun h=> ?_,fun h=> ?_⟩
   ·have aF:(s.bC a (i+1)).1≠0:=by simpa using h
    refine gg (k:= ?_)
    have dL:=zr s a aF (c - (i+1))
    rw[show i+1+(c - (i+1))=c by omega] at dL
    have hf:s.format a c gen=s.bC a (i+1):=by unfold J.format;rw[dL,if_neg aF]
    rw[hf]
    exact⟨_,rfl,rfl,trivial⟩
   ·have he:(s.bC a (i+1)).1=0:=by simpa using h
    refine gg (k:= ?_)
    refine aM (i+1) ⟨hi,he⟩ (by show c - (i+1)<c - i;omega) ?_ ?_
    ·exact no_implicit_lambda%ten
    ·exact no_implicit_lambda%az
  ·have hi:i=c:=by have:=of_decide_eq_false h;omega
   subst hi
   have gP:=gi.eZ p
   have s8:=gP.int
   have ij:=gP.len
   refine gg (k:= ?_)
   (refine ax (k:= ?_))
   refine bz (p:=3) aj hm [0,1,3,7,0,16,0,112,255,511] [⟨0,false,false,[]⟩,⟨1,true,false,[33,34,35,36,37,38,39,4]⟩,⟨2,true,false,[34,35,36,37,38,39,4]⟩,⟨3,true,false,[35,36,37,38,39,4]⟩,⟨4,false,false,[]⟩,⟨6,false,false,[]⟩,⟨5,true,false,[31,32,33,34,37,38,39,4]⟩,⟨7,true,false,[31,32,33,34,39,4]⟩,⟨8,true,true,[4]⟩,⟨9,false,false,[]⟩] (by kernel_rfl) ?_
   refine gg (k:= ?_)
   refine aP (mZ (s.bC a i).2 a i gP 0 (by unfold aG;omega) vb v0 v1) Tryz.call173 [0,1,2] ?_
   refine gg (k:= ?_)
   refine ae (FF gen lY) Tryz.call174 0 [] [] [] ?_
   refine gg (k:= ?_)
   refine ae (Ab 0 (s.bC a i).2 gi.ar (by omega) (by omega) (dE gen) (by rw[j7];decide) ((a:Int)*(s.bC a i).2.k+0) (by unfold aG;omega) X v0 v1) Tryz.call172 2 [1,2] [0,0] [] ?_
   refine gg (k:= ?_)
   have hf:s.format a i gen=(s.bC a i).2.prog ((a:Int)*(s.bC a i).2.k+0) (dE gen):=by
    unfold J.format;rw[if_pos h2,Int.add_zero,gi.k,g.k]
   rw[hf]
   exact⟨_,rfl,rfl,trivial⟩
end Go.Proofs.YtpbpiehcchannaaGreatDoor
