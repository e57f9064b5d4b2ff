/- Walks of lintelref19: Right, Key. Walks of lintelref00, lintelref01: CopyBytes, low, Put; lintelref21.Need. Walks of lintelref19: Split. Conditions: the premises of each law. -/
import Derived.Test.YtpbpiehcchannaaGreatDoorJKo2
namespace Go.Proofs.YtpbpiehcchannaaGreatDoor
set_option linter.unusedVariables false
set_option linter.unusedSimpArgs false
set_option maxRecDepth 100000
set_option maxHeartbeats 1500000
open Go.RowKit
theorem yR(s:ByteArray)(hs:s.size≤140737488355328):Spec Tryz.prog 179 [.val (.string s)] [] (bZ (.val (.bool (bM s))) []):=by
 obtain⟨l,hl⟩:∃l,s.data.toList=l:=⟨_,rfl⟩
 have hz:s.size=l.length:=by rw[←hl];simp
 have hr:bM s=(l.all ki&&(decide (1≤l.length)&&decide (l.length≤64))):=by unfold bM;rw[hl,hz]
 rw[hr]
 refine ax ai Tryz.func179 rfl Tryz.ntmps179 Tryz.results179 ?_
 refine gg ?_
 (refine aH ?_)
 conv=>whnf
 refine cE (fun i:Nat=>i≤l.length∧(l.take i).all ki=true) (fun i=>l.length - i) 0 [2,3,4,5,6,7,8,9,10,11,12,13,14,15,16,17,18,19] (fun i=>[(3,.val (.int .i64 i))]) (fun _=>[]) 0 ⟨Nat.zero_le _,rfl⟩ ?_ ?_ ?_
 ·exact no_implicit_lambda%ten
 ·exact no_implicit_lambda%b6
 ·rintro i v ⟨h1,h2⟩
  refine cF ?_
  refine gg ?_
  refine⟨fun h=> ?_,fun h=> ?_⟩
  ·have hi:i<l.length:=by have:=of_decide_eq_true h;omega
   refine aE ?_
   have hd:s.data.toList.getD (i:Int).toNat 0=l[i]:=by rw[hl];simp[hi]
   rw[hd]
   refine⟨fun h=> ?_,fun h=> ?_⟩
   ·refine gg ?_
    refine⟨_,congrArg AV.val (congrArg Value.bool ?_),rfl⟩
    have h0:ki l[i]=false:=by
     simp only[Bool.or_eq_true,decide_eq_true_eq] at h
     simp only[ki,Bool.and_eq_false_iff,decide_eq_false_iff_not]
     omega
    have h9:l.all ki=false:=by
     rw[List.all_eq_false]
     exact⟨l[i],List.getElem_mem hi,by rw[h0];decide⟩
    rw[h9];rfl
   ·refine gg ?_
    have h0:ki l[i]=true:=by
     simp only[Bool.or_eq_false_iff,decide_eq_false_iff_not] at h
     simp only[ki,Bool.and_eq_true,decide_eq_true_eq]
     omega
    exact bk (i+1) ⟨by omega,by rw[List.take_succ_eq_append_getElem hi,List.all_append,h2];simp[h0]⟩ (by show l.length - (i+1)<l.length - i;omega)
  ·refine aE ?_
   have hi:i=l.length:=by have:=of_decide_eq_false h;omega
   refine⟨_,congrArg AV.val (congrArg Value.bool ?_),rfl⟩
   rw[hi,List.take_length] at h2
   rw[h2,hz]
   have e1:decide ((1:Int)≤(l.length:Int))=decide (1≤l.length):=by rw[decide_eq_decide];omega
   have e2:decide ((l.length:Int)≤64)=decide (l.length≤64):=by rw[decide_eq_decide];omega
   rw[e1,e2,Bool.true_and]
theorem yS (s : ByteArray) (hs : s.size ≤ 140737488355328) (g : List UInt8) (hR : bM s = false) : Spec Tryz.prog 146 [.val (.string s), .agg (bC 16 g)] []
   (ak (.aD [.val (.slice none 0 0),.val (.int .i64 1)]) [] []):=by
 refine ax ai Tryz.func146 rfl Tryz.ntmps146 Tryz.results146 ?_
 refine gg ?_
 refine aY (yR s hs) Tryz.call179 [] ?_
 rw[hR]
 refine gg ?_
 exact⟨_,rfl,rfl,trivial⟩
theorem Rv (s : ByteArray) (hs : s.size ≤ 140737488355328) (g : List UInt8) (hg : g.length = 16) (hR : bM s = true) : Spec Tryz.prog 146 [.val (.string s), .agg (bC 16 g)] []
   (ak (.aD [.own 9 3 1 0 (16+s.size),.val (.int .i64 0)]) [] [(9,⟨3,.bytes (g++s.data.toList)⟩)]):=by
 obtain⟨l,hl⟩:∃l,s.data.toList=l:=⟨_,rfl⟩
 have hz:s.size=l.length:=by rw[←hl];simp
 have qj:l.length≤64:=by
  unfold bM at hR
  simp only[Bool.and_eq_true,decide_eq_true_eq] at hR
  omega
 refine ax ai Tryz.func146 rfl Tryz.ntmps146 Tryz.results146 ?_
 refine gg ?_
 refine aY (yR s hs) Tryz.call179 [] ?_
 rw[hR]
 refine gg ?_
 conv=>whnf
 refine And.intro ⟨rfl,⟨Dr [g.getD 0 0,g.getD 1 0,g.getD 2 0,g.getD 3 0,g.getD 4 0,g.getD 5 0,g.getD 6 0,g.getD 7 0,g.getD 8 0,g.getD 9 0,g.getD 10 0,g.getD 11 0,g.getD 12 0,g.getD 13 0,g.getD 14 0,g.getD 15 0],rfl,rfl⟩,rfl,rfl,rfl,by decide,by decide,by decide,by decide⟩ ?_
 rw[IY g hg]
 refine gg ?_
 conv=>whnf
 refine⟨g,?_⟩
 conv=>whnf
 refine And.intro ⟨rfl,⟨rfl,rfl,by simp only[hg];decide⟩,rfl,rfl,rfl,rfl,rfl,(by rw[show(((16:Nat):Int).toNat - Int.toNat 0)=16 from rfl,show Int.toNat 0=0 from rfl,List.drop_zero,List.take_of_length_le (by omega)]),(by simp only[hg];decide),by decide⟩ ?_
 refine gg ?_
 conv=>whnf
 refine⟨s.data.toList,?_⟩
 conv=>whnf
 rw[hl]
 refine And.intro ⟨rfl,trivial,rfl,rfl,rfl,by simp,rfl,rfl,(by simp only[List.map_nil,List.nil_append,hg];omega),by decide⟩ ?_
 refine gg ?_
 refine⟨_,?_,rfl,rfl,trivial⟩
 simp only[lA,List.map_nil,List.nil_append,List.length_nil,Nat.zero_add,hg,hz]
theorem wk (s : ByteArray) (hs : s.size ≤ 140737488355328) (g : List UInt8) (hg : g.length = 16) (hR : bM s = true) : Spec Tryz.prog 146 [.val (.string s), .agg (bC 16 g)] []
   (ak (.aD [.bs 0 (aO s g),.val (.int .i64 0)]) [] []):=by
 have bH:(aO s g).length=16+s.size:=by unfold aO;rw[List.length_append,hg];simp
 exact ix (Rv s hs g hg hR) (by simp[eM]) (AF.aD (aZ.cons (AF.own rfl bH.symm) (aZ.cons AF.same aZ.nil))) trivial
theorem DC(n:Int):Spec Tryz.prog 181 [.val (.int .i64 n)] [] (ak (.val (.bool (decide (n=1)||decide (n=2)||decide (n=4)||decide (n=8)))) [] []):=by
 refine ax ai Tryz.func181 rfl Tryz.ntmps181 Tryz.results181 ?_
 refine aE ?_
 exact⟨_,rfl,rfl,trivial⟩
theorem Rw(x:Int)(i:Nat):x/2^(8*(i:Int)).toNat/256=x/2^(8*((i+1:Nat):Int)).toNat:=by
 rw[show(8*((i+1:Nat):Int)).toNat=(8*(i:Int)).toNat+8 by omega,Int.pow_add,Int.ediv_ediv_of_nonneg (Int.le_of_lt (Int.pow_pos (by decide)))]
 rfl
def mI(x:Int):Nat→Int
 | 0=>x
 | i+1=>mI x i/256
theorem Jq(x:Int):∀i:Nat,mI x i=x/2^(8*(i:Int)).toNat
 | 0=>by simp[mI]
 | i+1=>by rw[mI,Jq x i,Rw]
theorem Jr{x:Int}(hx:0≤x):∀i:Nat,0≤mI x i∧mI x i≤x
 | 0=>⟨hx,Int.le_refl _⟩
 | i+1=>by
  have:=Jr hx i
  simp only[mI]
  omega
theorem Rx (x : Int) (hx : 0 ≤ x ∧ x ≤ 18446744073709551615) (n : Int) (hn : n = 2 ∨ n = 4) : Spec Tryz.prog 213 [.val (.int .u64 x), .val (.int .i64 n)] []
   (ak (.own 21 (n.toNat+1) 1 0 n.toNat) [] [(21,⟨n.toNat+1,.bytes (bz n.toNat x)⟩)]):=by
 have hS:=DC n
 have hs:(decide (n=1)||decide (n=2)||decide (n=4)||decide (n=8))=true:=by
  rcases hn with rfl | rfl<;>rfl
 rw[hs] at hS
 refine ax ai Tryz.func213 rfl Tryz.ntmps213 Tryz.results213 ?_
 refine gg ?_
 (refine aH ?_)
 conv=>whnf
 refine qK (lH 21 1 (.bytes []) rfl (by decide) rfl (t':=[.val (.int .u64 x),.val (.int .i64 n),.any,.any,.any,.own 21 1 1 0 0,.val (.int .i64 0),.any,.any,.any,.any,.any,.any,.any,.any,.any,.any,.any,.any,.any,.any,.any,.any,.any,.any]) ?_) ?_
 ·simp[jz,bc,aJ,aM,bu,dO,bF,bb,eF,dg,cL]
 dsimp only[aJ]
 refine cE (fun i:Nat=>i≤n.toNat) (fun i=>n.toNat - i) 0 [0,5,6,7,8,9,10,11,12,13,14,15,16,17,18,19,20,21,22,23] (fun i=>[(0,.val (.int .u64 (mI x i))),(5,.own 21 (i+1) 1 0 i),(6,.val (.int .i64 (i:Int)))])
  (fun i=>[(21,⟨i+1,.bytes (bz i x)⟩)]) 0 (Nat.zero_le _) ?_ ?_ ?_
 ·exact no_implicit_lambda%ten
 ·exact no_implicit_lambda%b6
 ·rintro i v i1
  obtain⟨hy,hle⟩:=Jr hx.1 i
  have lh:=B4 i x
  rw[←Jq] at lh
  have rO:mI x i/256=mI x (i+1):=rfl
  refine cF ?_
  generalize mI x i=y at hy hle lh rO
  refine gg ?_
  by_cases ah:(i:Int)<n
  ·rw[decide_eq_true ah]
   refine aE ?_
   refine af (hS) Tryz.call181 0 [] [] [] ?_
   refine aE ?_
   conv=>whnf
   refine⟨[UInt8.ofNat (y%256).toNat],?_⟩
   conv=>whnf
   have eD:=ec i x
   refine And.intro ⟨rfl,⟨rfl,rfl,Nat.le_refl _⟩,rfl,rfl,rfl,eD.symm,rfl,(by rw[show y%256%256=y%256 by omega];rfl),(by show((bz i x).length+1)*1≤_;rw[eD];omega),by decide⟩ ?_
   rw[←lh]
   refine aE ?_
   rw[rO,eD]
   exact bk (i+1) (by omega) (by show n.toNat - (i+1)<n.toNat - i;omega)
  ·rw[decide_eq_false ah]
   refine aE ?_
   intro _
   refine aE ?_
   have hi:i=n.toNat:=by omega
   subst hi
   exact⟨_,rfl,rfl,rfl,trivial⟩
theorem Js(z:Nat)(l:List UInt8)(hl:l.length≤140737488355328):Spec Tryz.prog 212 [.bs z l] [] (ak (.own 6 2 1 0 l.length) [] [(6,⟨2,.bytes l⟩)]):=by
 refine ax ai Tryz.func212 rfl Tryz.ntmps212 Tryz.results212 ?_
 refine aE ?_
 conv=>whnf
 refine⟨l,?_⟩
 conv=>whnf
 refine And.intro ?_ ?_
 ·exact⟨trivial,rfl,rfl,rfl,(by show l.length*1≤_;omega),by decide⟩
 refine aE ?_
 exact⟨_,rfl,rfl,rfl,trivial⟩
theorem Ry:Spec Tryz.prog 212 [.val (.slice none 0 0)] [] (ak (.own 6 2 1 0 0) [] [(6,⟨2,.bytes []⟩)]):=
 kC (Js 0 [] (by decide)) trivial ⟨trivial,trivial⟩ (rows:=[]) (args:=[.val (.slice none 0 0)]) (eA xQ iq)
theorem Jt (x : Int) (hx : 0 ≤ x ∧ x ≤ 18446744073709551615) (n : Int) (hn : n = 2 ∨ n = 4) : Spec Tryz.prog 185 [.val (.slice none 0 0), .val (.int .u64 x), .val (.int .i64 n)] []
   (ak (.own 9 4 1 0 n.toNat) [] [(9,⟨4,.bytes (bz n.toNat x)⟩)]):=by
 have lh:=ec n.toNat x
 refine ax ai Tryz.func185 rfl Tryz.ntmps185 Tryz.results185 ?_
 refine gg ?_
 refine af (Ry) Tryz.call212 0 [0,0,0,0,0,0,9] [0,0,0,0,0,0,1] [6] ?_
 refine gg ?_
 refine af (Rx x hx n hn) Tryz.call213 0 [0,0,0,0,0,0,0,0,0,0,0,0,0,0,0,0,0,0,0,0,0,13] [0,0,0,0,0,0,0,0,0,0,0,0,0,0,0,0,0,0,0,0,0,1] [21] ?_
 refine gg ?_
 conv=>whnf
 refine⟨bz n.toNat x,?_⟩
 conv=>whnf
 have Vh:n.toNat≤8:=by omega
 refine And.intro ⟨rfl,⟨rfl,rfl,by rw[lh];omega⟩,rfl,rfl,rfl,rfl,rfl,(by rw[List.drop_zero,List.take_of_length_le (by omega)]),(by rw[lh];show(0+n.toNat)*1≤_;omega),by decide⟩ ?_
 rw[lh]
 refine aE ?_
 refine⟨_,?_,rfl,rfl,trivial⟩
 simp only[lA,List.length_nil,Nat.zero_add]
theorem Ju{n:Nat}(key:List UInt8)(i:Nat)(hi:i<n):eY (bC n (key.take i)) (0+(i:Int).toNat*1) [.val (.int .u8 (((key.getD (i:Int).toNat 0).toNat:Nat):Int))]=bC n (key.take (i+1)):=by
 rw[show 0+(i:Int).toNat*1=i by omega,Int.toNat_natCast]
 unfold eY bC
 rw[js,jr]
 apply List.ext_getElem
 ·simp;omega
 ·intro j h1 h2
  simp only[List.length_map,List.length_range] at h2
  rw[List.getElem_map,List.getElem_range]
  rcases Nat.lt_trichotomy j i with q | q | q
  ·rw[List.getElem_append_left (by simp;omega),List.getElem_take,List.getElem_map,List.getElem_range]
   simp only[List.getD_eq_getElem?_getD,List.getElem?_take]
   rw[if_pos q,if_pos (by omega)]
  ·subst q
   rw[List.getElem_append_right (by simp;omega)]
   simp only[List.length_take,List.length_map,List.length_range,List.getElem_append,List.getD_eq_getElem?_getD,List.getElem?_take]
   simp[show min j n=j by omega,bv]
  ·rw[List.getElem_append_right (by simp;omega)]
   simp only[List.length_take,List.length_map,List.length_range,List.getD_eq_getElem?_getD,List.getElem?_take]
   rw[List.getElem_append_right (by simp;omega),List.getElem_drop,List.getElem_map,List.getElem_range]
   rw[if_neg (by omega)]
   have e:i+1+(j - min i n - 1)=j:=by omega
   simp[e]
   rw[if_neg (by omega)]
   simp
theorem DE (key : List UInt8) (hk : key.length ≤ 140737488355328) (z : Nat) (h : key.length < 16) : Spec Tryz.prog 151 [.bs z key] []
   (ak (.aD [.val (.string ByteArray.empty),.agg (bC 16 []),.val (.bool false)]) [] []):=by
 (
 refine ax ai Tryz.func151 rfl Tryz.ntmps151 Tryz.results151 ?_
 refine gg ?_)
 rw[decide_eq_true (by omega:(key.length:Int)<16)]
 intro _
 refine gg ?_
 (refine aH ?_)
 refine bL (p:=0) ai hm [0,0,3,7] [⟨0,true,false,[2,4]⟩,⟨1,false,false,[]⟩,⟨2,true,true,[4]⟩,⟨3,false,false,[]⟩] (by kernel_rfl) ?_
 refine gg ?_
 exact⟨_,rfl,rfl,trivial⟩
theorem Jv (key : List UInt8) (hk : key.length ≤ 140737488355328) (z : Nat) (h : 16 ≤ key.length) (hr : bM (strOf (key.drop 16)) = false) : Spec Tryz.prog 151 [.bs z key] []
   (ak (.aD [.val (.string ByteArray.empty),.agg (bC 16 []),.val (.bool false)]) [] []):=by
 (
 refine ax ai Tryz.func151 rfl Tryz.ntmps151 Tryz.results151 ?_
 refine gg ?_)
 rw[decide_eq_false (by omega:¬(key.length:Int)<16)]
 refine gg ?_
 rw[show(key.take (key.length:Int).toNat).drop (16:Int).toNat=key.drop 16 by simp]
 conv=>whnf
 refine ji (hA:=fun hG=>⟨trivial,hG,trivial⟩) (k:= ?_)
 refine aY (yR (strOf (key.drop 16)) (by rw[sU,List.length_drop];omega)) Tryz.call179 [] ?_
 rw[hr]
 refine gg ?_
 (refine aH ?_)
 refine bL (p:=0) ai hm [0,0,3,7] [⟨0,true,false,[2,4]⟩,⟨1,false,false,[]⟩,⟨2,true,true,[4]⟩,⟨3,false,false,[]⟩] (by kernel_rfl) ?_
 refine gg ?_
 exact⟨_,rfl,rfl,trivial⟩
theorem DF (nm : ByteArray) (hn : nm.size ≤ 140737488355328) (hr : bM nm = true) (g : List UInt8) (hg : g.length = 16) (z : Nat) : Spec Tryz.prog 151 [.bs z (g ++ nm.data.toList)] []
   (ak (.aD [.val (.string nm),.agg (bC 16 g),.val (.bool true)]) [] []):=by
 obtain⟨key,dz⟩:∃key,key=g++nm.data.toList:=⟨_,rfl⟩
 have hd:strOf (key.drop 16)=nm:=by rw[dz,List.drop_left' hg,lQ]
 have ht:key.take 16=g:=by rw[dz];exact List.take_left' hg
 have hl:key.length=16+nm.size:=by rw[dz,List.length_append,hg];simp
 have hR:=yR nm hn
 rw[hr] at hR
 rw[←dz]
 have hk:16≤key.length:=by omega
 (
 refine ax ai Tryz.func151 rfl Tryz.ntmps151 Tryz.results151 ?_
 refine gg ?_)
 rw[decide_eq_false (by omega:¬(key.length:Int)<16)]
 refine gg ?_
 rw[show(key.take (key.length:Int).toNat).drop (16:Int).toNat=key.drop 16 by simp,hd]
 conv=>whnf
 refine ji (hA:=fun hG=>⟨trivial,hG,trivial⟩) (k:= ?_)
 refine aY (hR) Tryz.call179 [] ?_
 refine gg ?_
 (refine aH ?_)
 conv=>whnf
 refine cE (fun i:Nat=>i≤16) (fun i=>16 - i) 0 [6,18,19,20,21,22,23,24,25,26,27] (fun i=>[(6,.val (.int .i64 (i:Int)))]) (fun i=>[(5,⟨1,.obj (bC 16 (key.take i))⟩)]) 0 (Nat.zero_le _) ?_ ?_ ?_
 ·exact no_implicit_lambda%ten
 ·exact no_implicit_lambda%b6
 ·rintro i v i1
  refine cF ?_
  refine gg ?_
  refine⟨fun h=> ?_,fun h=> ?_⟩
  ·have hi:i<16:=by have:=of_decide_eq_true h;omega
   refine gg ?_
   conv=>whnf
   refine And.intro ⟨rfl,rfl,⟨rfl,trivial⟩,rfl,by show 0+(i:Int).toNat*1+1≤16;omega⟩ ?_
   dsimp only[bc,aJ,aM,bu,dO,bF,bb,eU]
   rw[Ju (n:=16) key i hi]
   refine gg ?_
   exact bk (i+1) hi (by show 16 - (i+1)<16 - i;omega)
  ·have hi:i=16:=by have:=of_decide_eq_false h;omega
   subst hi
   rw[ht]
   refine gg ?_
   (refine aH ?_)
   refine bL (p:=0) ai hm [0,1,3,0,7,31,63] [⟨0,false,false,[]⟩,⟨1,true,false,[30,31,2,4]⟩,⟨2,true,false,[31,2,4]⟩,⟨3,true,false,[28,29,30,2,4]⟩,⟨4,false,false,[]⟩,⟨5,true,true,[4]⟩,⟨6,false,false,[]⟩] (by kernel_rfl) ?_
   refine gg ?_
   rw[show(key.take (key.length:Int).toNat).drop (16:Int).toNat=key.drop 16 by simp,hd]
   refine gg ?_
   exact⟨_,rfl,rfl,trivial⟩
end Go.Proofs.YtpbpiehcchannaaGreatDoor
