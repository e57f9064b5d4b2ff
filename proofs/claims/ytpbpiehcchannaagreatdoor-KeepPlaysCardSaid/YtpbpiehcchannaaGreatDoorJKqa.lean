/- Walks of lintelref19: Right, Key. Walks of lintelref00, lintelref01: CopyBytes, low, Put; lintelref21.Need. Walks of lintelref19: Split. Conditions: the premises of each law. -/
import Derived.Test.YtpbpiehcchannaaGreatDoorJKo2
namespace Go.Proofs.YtpbpiehcchannaaGreatDoor
open Go.RowKit
set_option linter.unusedVariables false
set_option linter.unusedSimpArgs false
set_option maxRecDepth 100000
set_option maxHeartbeats 1500000
theorem rright_vc(s:ByteArray)(hs:s.size≤140737488355328):Spec Tryz.prog 179 [.val (.string s)] [] (pst (.val (.bool (rightN s))) []):=by
 obtain⟨l,hl⟩:∃l,s.data.toList=l:=⟨_,rfl⟩
 have hz:s.size=l.length:=by rw[←hl];simp
 have hr:rightN s=(l.all okC&&(decide (1≤l.length)&&decide (l.length≤64))):=by unfold rightN;rw[hl,hz]
 rw[hr]
 refine spec_entry tbOk Tryz.func179 rfl Tryz.ntmps179 Tryz.results179 ?_
 refine gg (k:= ?_)
 (refine sts (k:= ?_))
 conv=>whnf
 refine loop_at (fun i:Nat=>i≤l.length∧(l.take i).all okC=true) (fun i=>l.length - i) 0 [2,3,4,5,6,7,8,9,10,11,12,13,14,15,16,17,18,19] (fun i=>[(3,.val (.int .i64 i))]) (fun _=>[]) 0 ⟨Nat.zero_le _,rfl⟩ ?_ ?_ ?_
 ·exact no_implicit_lambda%ten
 ·exact no_implicit_lambda%hen
 ·rintro i v ⟨h1,h2⟩
  refine glp (k:= ?_)
  refine gg (k:= ?_)
  refine⟨fun h=> ?_,fun h=> ?_⟩
  ·have hi:i<l.length:=by have:=of_decide_eq_true h;omega
   refine ggO (k:= ?_)
   have hd:s.data.toList.getD (i:Int).toNat 0=l[i]:=by rw[hl];simp[hi]
   rw[hd]
   refine⟨fun h=> ?_,fun h=> ?_⟩
   ·refine gg (k:= ?_)
    refine⟨_,congrArg AV.val (congrArg Value.bool ?_),rfl⟩
    have h0:okC l[i]=false:=by
     simp only[Bool.or_eq_true,decide_eq_true_eq] at h
     simp only[okC,Bool.and_eq_false_iff,decide_eq_false_iff_not]
     omega
    have h9:l.all okC=false:=by
     rw[List.all_eq_false]
     exact⟨l[i],List.getElem_mem hi,by rw[h0];decide⟩
    rw[h9];rfl
   ·refine gg (k:= ?_)
    have h0:okC l[i]=true:=by
     simp only[Bool.or_eq_false_iff,decide_eq_false_iff_not] at h
     simp only[okC,Bool.and_eq_true,decide_eq_true_eq]
     omega
    refine back_at (i+1) ⟨by omega,by rw[List.take_succ_eq_append_getElem hi,List.all_append,h2];simp[h0]⟩ (by show l.length - (i+1)<l.length - i;omega) ?_ ?_
    ·exact no_implicit_lambda%ten
    ·exact no_implicit_lambda%hen
  ·refine ggO (k:= ?_)
   have hi:i=l.length:=by have:=of_decide_eq_false h;omega
   refine⟨_,congrArg AV.val (congrArg Value.bool ?_),rfl⟩
   rw[hi,List.take_length] at h2
   rw[h2,hz]
   have e1:decide ((1:Int)≤(l.length:Int))=decide (1≤l.length):=by rw[decide_eq_decide];omega
   have e2:decide ((l.length:Int)≤64)=decide (l.length≤64):=by rw[decide_eq_decide];omega
   rw[e1,e2,Bool.true_and]
theorem rkey_no (s : ByteArray) (hs : s.size ≤ 140737488355328) (g : List UInt8) (hR : rightN s = false) : Spec Tryz.prog 146 [.val (.string s), .agg (bytesA 16 g)] []
   (pms (.tup [.val (.slice none 0 0),.val (.int .i64 1)]) [] []):=by
 refine spec_entry tbOk Tryz.func146 rfl Tryz.ntmps146 Tryz.results146 ?_
 refine gg (k:= ?_)
 refine cdet (rright_vc s hs) Tryz.call179 [] ?_
 rw[hR]
 refine gg (k:= ?_)
 exact⟨_,rfl,rfl,trivial⟩
theorem rkey_raw (s : ByteArray) (hs : s.size ≤ 140737488355328) (g : List UInt8) (hg : g.length = 16) (hR : rightN s = true) : Spec Tryz.prog 146 [.val (.string s), .agg (bytesA 16 g)] []
   (pms (.tup [.own 9 3 1 0 (16+s.size),.val (.int .i64 0)]) [] [(9,⟨3,.bytes (g++s.data.toList)⟩)]):=by
 obtain⟨l,hl⟩:∃l,s.data.toList=l:=⟨_,rfl⟩
 have hz:s.size=l.length:=by rw[←hl];simp
 have hR2:l.length≤64:=by
  unfold rightN at hR
  simp only[Bool.and_eq_true,decide_eq_true_eq] at hR
  omega
 refine spec_entry tbOk Tryz.func146 rfl Tryz.ntmps146 Tryz.results146 ?_
 refine gg (k:= ?_)
 refine cdet (rright_vc s hs) Tryz.call179 [] ?_
 rw[hR]
 refine gg (k:= ?_)
 conv=>whnf
 refine And.intro ⟨rfl,⟨okBytes_nat [g.getD 0 0,g.getD 1 0,g.getD 2 0,g.getD 3 0,g.getD 4 0,g.getD 5 0,g.getD 6 0,g.getD 7 0,g.getD 8 0,g.getD 9 0,g.getD 10 0,g.getD 11 0,g.getD 12 0,g.getD 13 0,g.getD 14 0,g.getD 15 0],rfl,rfl⟩,rfl,rfl,rfl,by decide,by decide,by decide,by decide⟩ ?_
 rw[guid_bs g hg]
 refine gg (k:= ?_)
 conv=>whnf
 refine⟨g,?_⟩
 conv=>whnf
 refine And.intro ⟨rfl,⟨rfl,rfl,by simp only[hg];decide⟩,rfl,rfl,rfl,rfl,rfl,(by rw[show(((16:Nat):Int).toNat - Int.toNat 0)=16 from rfl,show Int.toNat 0=0 from rfl,List.drop_zero,List.take_of_length_le (by omega)]),(by simp only[hg];decide),by decide⟩ ?_
 refine gg (k:= ?_)
 conv=>whnf
 refine⟨s.data.toList,?_⟩
 conv=>whnf
 rw[hl]
 refine And.intro ⟨rfl,trivial,rfl,rfl,rfl,by simp,rfl,rfl,(by simp only[List.map_nil,List.nil_append,hg];omega),by decide⟩ ?_
 refine gg (k:= ?_)
 refine⟨_,?_,rfl,rfl,trivial⟩
 simp only[retV,List.map_nil,List.nil_append,List.length_nil,Nat.zero_add,hg,hz]
theorem rkey_vc (s : ByteArray) (hs : s.size ≤ 140737488355328) (g : List UInt8) (hg : g.length = 16) (hR : rightN s = true) : Spec Tryz.prog 146 [.val (.string s), .agg (bytesA 16 g)] []
   (pms (.tup [.bs 0 (keyV s g),.val (.int .i64 0)]) [] []):=by
 have hkl:(keyV s g).length=16+s.size:=by unfold keyV;rw[List.length_append,hg];simp
 exact spec_frz (rkey_raw s hs g hg hR) (by simp[geM]) (AF.tup (AFL.cons (AF.own rfl hkl.symm) (AFL.cons AF.same AFL.nil))) trivial
end Go.Proofs.YtpbpiehcchannaaGreatDoor
namespace Go.Proofs.YtpbpiehcchannaaGreatDoor
open Go.RowKit
set_option linter.unusedVariables false
set_option linter.unusedSimpArgs false
set_option maxRecDepth 100000
set_option maxHeartbeats 1500000
theorem rsized_vc(n:Int):Spec Tryz.prog 181 [.val (.int .i64 n)] [] (pms (.val (.bool (decide (n=1)||decide (n=2)||decide (n=4)||decide (n=8)))) [] []):=by
 refine spec_entry tbOk Tryz.func181 rfl Tryz.ntmps181 Tryz.results181 ?_
 refine ggO (k:= ?_)
 exact⟨_,rfl,rfl,trivial⟩
theorem shr_next(x:Int)(i:Nat):x/2^(8*(i:Int)).toNat/256=x/2^(8*((i+1:Nat):Int)).toNat:=by
 rw[show(8*((i+1:Nat):Int)).toNat=(8*(i:Int)).toNat+8 by omega,Int.pow_add,Int.ediv_ediv_of_nonneg (Int.le_of_lt (Int.pow_pos (by decide)))]
 rfl
def divN(x:Int):Nat→Int
 | 0=>x
 | i+1=>divN x i/256
theorem divN_eq(x:Int):∀i:Nat,divN x i=x/2^(8*(i:Int)).toNat
 | 0=>by simp[divN]
 | i+1=>by rw[divN,divN_eq x i,shr_next]
theorem divN_bd{x:Int}(hx:0≤x):∀i:Nat,0≤divN x i∧divN x i≤x
 | 0=>⟨hx,Int.le_refl _⟩
 | i+1=>by
  have:=divN_bd hx i
  simp only[divN]
  omega
theorem rlow_vc (x : Int) (hx : 0 ≤ x ∧ x ≤ 18446744073709551615) (n : Int) (hn : n = 2 ∨ n = 4) : Spec Tryz.prog 213 [.val (.int .u64 x), .val (.int .i64 n)] []
   (pms (.own 21 (n.toNat+1) 1 0 n.toNat) [] [(21,⟨n.toNat+1,.bytes (leB n.toNat x)⟩)]):=by
 have hS:=rsized_vc n
 have hs:(decide (n=1)||decide (n=2)||decide (n=4)||decide (n=8))=true:=by
  rcases hn with rfl | rfl<;>rfl
 rw[hs] at hS
 refine spec_entry tbOk Tryz.func213 rfl Tryz.ntmps213 Tryz.results213 ?_
 refine gg (k:= ?_)
 (refine sts (k:= ?_))
 conv=>whnf
 refine loop_le (leS_nil 21 1 (.bytes []) rfl (by decide) rfl (t':=[.val (.int .u64 x),.val (.int .i64 n),.any,.any,.any,.own 21 1 1 0 0,.val (.int .i64 0),.any,.any,.any,.any,.any,.any,.any,.any,.any,.any,.any,.any,.any,.any,.any,.any,.any,.any]) ?_) ?_
 ·simp[leTn,setD,setL,updH,evA,unA,getA,getL,constA,undefs,deads]
 dsimp only[setL]
 refine loop_at (fun i:Nat=>i≤n.toNat) (fun i=>n.toNat - i) 0 [0,5,6,7,8,9,10,11,12,13,14,15,16,17,18,19,20,21,22,23] (fun i=>[(0,.val (.int .u64 (divN x i))),(5,.own 21 (i+1) 1 0 i),(6,.val (.int .i64 (i:Int)))])
  (fun i=>[(21,⟨i+1,.bytes (leB i x)⟩)]) 0 (Nat.zero_le _) ?_ ?_ ?_
 ·exact no_implicit_lambda%ten
 ·exact no_implicit_lambda%hen
 ·rintro i v i1
  obtain⟨hy,hle⟩:=divN_bd hx.1 i
  have hlb:=leB_succ i x
  rw[←divN_eq] at hlb
  have hn2:divN x i/256=divN x (i+1):=rfl
  refine glp (k:= ?_)
  generalize divN x i=y at hy hle hlb hn2
  refine gg (k:= ?_)
  by_cases hlt:(i:Int)<n
  ·rw[decide_eq_true hlt]
   refine ggO (k:= ?_)
   refine cmks (hS) Tryz.call181 0 [] [] [] ?_
   refine ggO (k:= ?_)
   conv=>whnf
   refine⟨[UInt8.ofNat (y%256).toNat],?_⟩
   conv=>whnf
   have hli:=leB_len i x
   refine And.intro ⟨rfl,⟨rfl,rfl,Nat.le_refl _⟩,rfl,rfl,rfl,hli.symm,rfl,(by rw[show y%256%256=y%256 by omega];rfl),(by show((leB i x).length+1)*1≤_;rw[hli];omega),by decide⟩ ?_
   rw[←hlb]
   refine ggO (k:= ?_)
   rw[hn2,hli]
   refine back_at (i+1) (by omega) (by show n.toNat - (i+1)<n.toNat - i;omega) ?_ ?_
   ·exact no_implicit_lambda%ten
   ·exact no_implicit_lambda%hen
  ·rw[decide_eq_false hlt]
   refine ggO (k:= ?_)
   intro _
   refine ggO (k:= ?_)
   have hi:i=n.toNat:=by omega
   subst hi
   exact⟨_,rfl,rfl,rfl,trivial⟩
theorem rcopy_bs(z:Nat)(l:List UInt8)(hl:l.length≤140737488355328):Spec Tryz.prog 212 [.bs z l] [] (pms (.own 6 2 1 0 l.length) [] [(6,⟨2,.bytes l⟩)]):=by
 refine spec_entry tbOk Tryz.func212 rfl Tryz.ntmps212 Tryz.results212 ?_
 refine ggO (k:= ?_)
 conv=>whnf
 refine⟨l,?_⟩
 conv=>whnf
 refine And.intro ?_ ?_
 ·exact⟨trivial,rfl,rfl,rfl,(by show l.length*1≤_;omega),by decide⟩
 refine ggO (k:= ?_)
 exact⟨_,rfl,rfl,rfl,trivial⟩
theorem rcopy_nil:Spec Tryz.prog 212 [.val (.slice none 0 0)] [] (pms (.own 6 2 1 0 0) [] [(6,⟨2,.bytes []⟩)]):=
 spec_ro (rcopy_bs 0 [] (by decide)) trivial ⟨trivial,trivial⟩ (rows:=[]) (args:=[.val (.slice none 0 0)]) (asL_cons as_nil asL_nil)
theorem rput_vc (x : Int) (hx : 0 ≤ x ∧ x ≤ 18446744073709551615) (n : Int) (hn : n = 2 ∨ n = 4) : Spec Tryz.prog 185 [.val (.slice none 0 0), .val (.int .u64 x), .val (.int .i64 n)] []
   (pms (.own 9 4 1 0 n.toNat) [] [(9,⟨4,.bytes (leB n.toNat x)⟩)]):=by
 have hlb:=leB_len n.toNat x
 refine spec_entry tbOk Tryz.func185 rfl Tryz.ntmps185 Tryz.results185 ?_
 refine gg (k:= ?_)
 refine cmks (rcopy_nil) Tryz.call212 0 [0,0,0,0,0,0,9] [0,0,0,0,0,0,1] [6] ?_
 refine gg (k:= ?_)
 refine cmks (rlow_vc x hx n hn) Tryz.call213 0 [0,0,0,0,0,0,0,0,0,0,0,0,0,0,0,0,0,0,0,0,0,13] [0,0,0,0,0,0,0,0,0,0,0,0,0,0,0,0,0,0,0,0,0,1] [21] ?_
 refine gg (k:= ?_)
 conv=>whnf
 refine⟨leB n.toNat x,?_⟩
 conv=>whnf
 have hn8:n.toNat≤8:=by omega
 refine And.intro ⟨rfl,⟨rfl,rfl,by rw[hlb];omega⟩,rfl,rfl,rfl,rfl,rfl,(by rw[List.drop_zero,List.take_of_length_le (by omega)]),(by rw[hlb];show(0+n.toNat)*1≤_;omega),by decide⟩ ?_
 rw[hlb]
 refine ggO (k:= ?_)
 refine⟨_,?_,rfl,rfl,trivial⟩
 simp only[retV,List.length_nil,Nat.zero_add]
theorem rneed_vc(k v:Int)(hk:0≤k∧k≤140737488355328)(hv:0≤v∧v≤140737488355328):Spec Tryz.prog 76 [.val (.int .i64 k),.val (.int .i64 v)] [] (pms (.val (.int .i64 (12+k+v))) [] []):=by
 refine spec_entry tbOk Tryz.func76 rfl Tryz.ntmps76 Tryz.results76 ?_
 refine ggO (k:= ?_)
 exact⟨_,rfl,rfl,trivial⟩
theorem rneed21_vc(nm:ByteArray)(hn:nm.size≤1000000)(d:Int)(hd:0≤d∧d≤1000000):Spec Tryz.prog 57 [.val (.string nm),.val (.int .i64 d)] [] (pms (.val (.int .i64 (12+(16+nm.size)+(52+d)))) [] []):=by
 refine spec_entry tbOk Tryz.func57 rfl Tryz.ntmps57 Tryz.results57 ?_
 refine ggO (k:= ?_)
 refine cmks (rneed_vc (16+(nm.size:Int)) (52+d) (by omega) (by omega)) Tryz.call76 0 [] [] [] ?_
 refine ggO (k:= ?_)
 exact⟨_,rfl,rfl,trivial⟩
end Go.Proofs.YtpbpiehcchannaaGreatDoor
namespace Go.Proofs.YtpbpiehcchannaaGreatDoor
open Go.RowKit
set_option linter.unusedVariables false
set_option linter.unusedSimpArgs false
set_option maxRecDepth 100000
set_option maxHeartbeats 1500000
theorem putA_bytes{n:Nat}(key:List UInt8)(i:Nat)(hi:i<n):putA (bytesA n (key.take i)) (0+(i:Int).toNat*1) [.val (.int .u8 (((key.getD (i:Int).toNat 0).toNat:Nat):Int))]=bytesA n (key.take (i+1)):=by
 rw[show 0+(i:Int).toNat*1=i by omega,Int.toNat_natCast]
 unfold putA bytesA
 rw[takeL_eq,dropL_eq]
 apply List.ext_getElem
 ·simp;omega
 ·intro j h1 h2
  simp only[List.length_map,List.length_range] at h2
  rw[List.getElem_map,List.getElem_range]
  rcases Nat.lt_trichotomy j i with q | q | q
  ·rw[List.getElem_append_left (by simp;omega),List.getElem_take,List.getElem_map,List.getElem_range]
   simp only[List.getD_eq_getElem?_getD,List.getElem?_take]
   rw[if_pos q,if_pos (by omega)]
  ·subst q
   rw[List.getElem_append_right (by simp;omega)]
   simp only[List.length_take,List.length_map,List.length_range,List.getElem_append,List.getD_eq_getElem?_getD,List.getElem?_take]
   simp[show min j n=j by omega,bv]
  ·rw[List.getElem_append_right (by simp;omega)]
   simp only[List.length_take,List.length_map,List.length_range,List.getD_eq_getElem?_getD,List.getElem?_take]
   rw[List.getElem_append_right (by simp;omega),List.getElem_drop,List.getElem_map,List.getElem_range]
   rw[if_neg (by omega)]
   have e:i+1+(j - min i n - 1)=j:=by omega
   simp[e]
   rw[if_neg (by omega)]
   simp
theorem rsplit_no (key : List UInt8) (hk : key.length ≤ 140737488355328) (z : Nat) (h : key.length < 16) : Spec Tryz.prog 151 [.bs z key] []
   (pms (.tup [.val (.string ByteArray.empty),.agg (bytesA 16 []),.val (.bool false)]) [] []):=by
 (
 refine spec_entry tbOk Tryz.func151 rfl Tryz.ntmps151 Tryz.results151 ?_
 refine gg (k:= ?_))
 rw[decide_eq_true (by omega:(key.length:Int)<16)]
 intro _
 refine gg (k:= ?_)
 (refine sts (k:= ?_))
 refine draw_of (p:=0) tbOk hm [0,0,3,7] [⟨0,true,false,[2,4]⟩,⟨1,false,false,[]⟩,⟨2,true,true,[4]⟩,⟨3,false,false,[]⟩] (by kernel_rfl) ?_
 refine gg (k:= ?_)
 exact⟨_,rfl,rfl,trivial⟩
theorem rsplit_bad (key : List UInt8) (hk : key.length ≤ 140737488355328) (z : Nat) (h : 16 ≤ key.length) (hr : rightN (strOf (key.drop 16)) = false) : Spec Tryz.prog 151 [.bs z key] []
   (pms (.tup [.val (.string ByteArray.empty),.agg (bytesA 16 []),.val (.bool false)]) [] []):=by
 (
 refine spec_entry tbOk Tryz.func151 rfl Tryz.ntmps151 Tryz.results151 ?_
 refine gg (k:= ?_))
 rw[decide_eq_false (by omega:¬(key.length:Int)<16)]
 refine gg (k:= ?_)
 rw[show(key.take (key.length:Int).toNat).drop (16:Int).toNat=key.drop 16 by simp]
 conv=>whnf
 refine gcl (hA:=fun hG=>⟨trivial,hG,trivial⟩) (k:= ?_)
 refine cdet (rright_vc (strOf (key.drop 16)) (by rw[strOf_size,List.length_drop];omega)) Tryz.call179 [] ?_
 rw[hr]
 refine gg (k:= ?_)
 (refine sts (k:= ?_))
 refine draw_of (p:=0) tbOk hm [0,0,3,7] [⟨0,true,false,[2,4]⟩,⟨1,false,false,[]⟩,⟨2,true,true,[4]⟩,⟨3,false,false,[]⟩] (by kernel_rfl) ?_
 refine gg (k:= ?_)
 exact⟨_,rfl,rfl,trivial⟩
theorem rsplit_yes (nm : ByteArray) (hn : nm.size ≤ 140737488355328) (hr : rightN nm = true) (g : List UInt8) (hg : g.length = 16) (z : Nat) : Spec Tryz.prog 151 [.bs z (g ++ nm.data.toList)] []
   (pms (.tup [.val (.string nm),.agg (bytesA 16 g),.val (.bool true)]) [] []):=by
 obtain⟨key,hkey⟩:∃key,key=g++nm.data.toList:=⟨_,rfl⟩
 have hd:strOf (key.drop 16)=nm:=by rw[hkey,List.drop_left' hg,strOf_toList]
 have ht:key.take 16=g:=by rw[hkey];exact List.take_left' hg
 have hl:key.length=16+nm.size:=by rw[hkey,List.length_append,hg];simp
 have hR:=rright_vc nm hn
 rw[hr] at hR
 rw[←hkey]
 have hk:16≤key.length:=by omega
 (
 refine spec_entry tbOk Tryz.func151 rfl Tryz.ntmps151 Tryz.results151 ?_
 refine gg (k:= ?_))
 rw[decide_eq_false (by omega:¬(key.length:Int)<16)]
 refine gg (k:= ?_)
 rw[show(key.take (key.length:Int).toNat).drop (16:Int).toNat=key.drop 16 by simp,hd]
 conv=>whnf
 refine gcl (hA:=fun hG=>⟨trivial,hG,trivial⟩) (k:= ?_)
 refine cdet (hR) Tryz.call179 [] ?_
 refine gg (k:= ?_)
 (refine sts (k:= ?_))
 conv=>whnf
 refine loop_at (fun i:Nat=>i≤16) (fun i=>16 - i) 0 [6,18,19,20,21,22,23,24,25,26,27] (fun i=>[(6,.val (.int .i64 (i:Int)))]) (fun i=>[(5,⟨1,.obj (bytesA 16 (key.take i))⟩)]) 0 (Nat.zero_le _) ?_ ?_ ?_
 ·exact no_implicit_lambda%ten
 ·exact no_implicit_lambda%hen
 ·rintro i v i1
  refine glp (k:= ?_)
  refine gg (k:= ?_)
  refine⟨fun h=> ?_,fun h=> ?_⟩
  ·have hi:i<16:=by have:=of_decide_eq_true h;omega
   refine gg (k:= ?_)
   conv=>whnf
   refine And.intro ⟨rfl,rfl,⟨rfl,trivial⟩,rfl,by show 0+(i:Int).toNat*1+1≤16;omega⟩ ?_
   dsimp only[setD,setL,updH,evA,unA,getA,getL,flatA]
   rw[putA_bytes (n:=16) key i hi]
   refine gg (k:= ?_)
   refine back_at (i+1) hi (by show 16 - (i+1)<16 - i;omega) ?_ ?_
   ·exact no_implicit_lambda%ten
   ·exact no_implicit_lambda%hen
  ·have hi:i=16:=by have:=of_decide_eq_false h;omega
   subst hi
   rw[ht]
   refine gg (k:= ?_)
   (refine sts (k:= ?_))
   refine draw_of (p:=0) tbOk hm [0,1,3,0,7,31,63] [⟨0,false,false,[]⟩,⟨1,true,false,[30,31,2,4]⟩,⟨2,true,false,[31,2,4]⟩,⟨3,true,false,[28,29,30,2,4]⟩,⟨4,false,false,[]⟩,⟨5,true,true,[4]⟩,⟨6,false,false,[]⟩] (by kernel_rfl) ?_
   refine gg (k:= ?_)
   rw[show(key.take (key.length:Int).toNat).drop (16:Int).toNat=key.drop 16 by simp,hd]
   refine gg (k:= ?_)
   exact⟨_,rfl,rfl,trivial⟩
end Go.Proofs.YtpbpiehcchannaaGreatDoor
