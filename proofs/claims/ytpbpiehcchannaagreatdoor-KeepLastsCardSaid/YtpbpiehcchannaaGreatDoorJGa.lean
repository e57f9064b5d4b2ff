/- Walks of octet: sized, within, straight; slices.Index, slices.Contains. Walks of octet: Put, get, Get. Walks of crc. Walks of slices.Grow, slices.Concat. Walks of bank: Need, head, lay. Walks of bank: parse. Conditions: the premises of each law. -/
import Derived.Test.YtpbpiehcchannaaGreatDoorJGf
import Derived.Test.YtpbpiehcchannaaGreatDoorJAp
namespace Go.Proofs.YtpbpiehcchannaaGreatDoor
set_option linter.unusedVariables false
set_option linter.unusedSimpArgs false
set_option maxRecDepth 100000
set_option maxHeartbeats 1500000
open Go.RowKit
theorem GO(i:Int):Spec Tryz.prog 155 [.val (.int .i64 i)] [] (bZ (.val (.int .i64 i)) []):=by
 refine ax ai Tryz.func155 rfl Tryz.ntmps155 Tryz.results155 ?_
 refine gg ?_
 exact⟨_,rfl,rfl⟩
theorem Nr(z:Nat)(b:List UInt8)(hb:b.length≤140737488355328)(i n:Int)(hi:aX i)(hn:aX n):Spec Tryz.prog 211 [.bs z b,.val (.int .i64 i),.val (.int .i64 n)] [] (bZ (.val (.bool (decide (0≤i∧0≤n∧i+n≤b.length)))) []):=by
 refine ax ai Tryz.func211 rfl Tryz.ntmps211 Tryz.results211 ?_
 refine gg ?_
 refine⟨_,congrArg AV.val (congrArg Value.bool ?_),rfl⟩
 rw[Bool.eq_iff_iff];simp;omega
theorem Ns(n:Int)(ns:List Int)(hl:ns.length≤140737488355328)(v0:Nat)(r:Int)(hr:r=match ns.idxOf? n with | some i=>(i:Int) | none=> -1):Spec Tryz.prog 221 [.own 0 v0 1 0 ns.length,.val (.int .i64 n)] [⟨v0,.row 1 (dy .i64) 0 ns⟩] (bZ (.val (.int .i64 r)) [⟨v0,.row 1 (dy .i64) 0 ns⟩]):=by
 refine ax ai Tryz.func221 rfl Tryz.ntmps221 Tryz.results221 ?_
 refine gg ?_
 (refine aH ?_)
 conv=>whnf
 refine cE (fun i:Nat=>i≤ns.length∧∀j,j<i→ns[j]? ≠some n) (fun i=>ns.length - i) 1 [4,5,8,9,10,11,12,13,14,15,16,17,18] (fun i=>[(8,.val (.int .i64 i))]) (fun _=>[]) 0 ⟨Nat.zero_le _,fun j hj=>absurd hj (Nat.not_lt_zero j)⟩ ?_ ?_ ?_
 ·exact no_implicit_lambda%ten
 ·exact no_implicit_lambda%b6
 ·rintro i v ⟨h1,h2⟩
  refine cF ?_
  refine gg ?_
  refine⟨fun h=> ?_,fun h=> ?_⟩
  ·have hi:i<ns.length:=by have:=of_decide_eq_true h;omega
   refine gg ?_
   have hd:ns.getD (0+(i:Int).toNat) 0=ns[i]:=by simp[hi]
   rw[hd]
   refine⟨fun h=> ?_,fun h=> ?_⟩
   ·refine gg ?_
    have hn:n=ns[i]:=of_decide_eq_true h
    refine⟨_,?_,rfl⟩
    have:ns.idxOf? n=some i:=by
     rw[List.idxOf?,List.findIdx?_eq_some_iff_getElem]
     refine⟨hi,by simp[hn],fun j hj=> ?_⟩
     have:=h2 j hj
     rw[List.getElem?_eq_getElem (by omega)] at this
     simpa using this
    rw[hr,this];rfl
   ·refine gg ?_
    have hn:¬n=ns[i]:=of_decide_eq_false h
    refine nZ (i+1) ⟨by omega,fun j hj=> ?_⟩ (by show ns.length - (i+1)<ns.length - i;omega) ?_ ?_
    ·rcases Nat.lt_succ_iff_lt_or_eq.1 hj with hj | rfl
     ·exact h2 j hj
     ·rw[List.getElem?_eq_getElem hi];exact fun q=>hn (Option.some.inj q).symm
    ·exact no_implicit_lambda%ten
    ·exact no_implicit_lambda%b6
  ·refine gg ?_
   have hi:i=ns.length:=by have:=of_decide_eq_false h;omega
   refine⟨_,?_,rfl⟩
   have:ns.idxOf? n=none:=by
    rw[List.idxOf?,List.findIdx?_eq_none_iff]
    intro x hx
    obtain⟨j,hj,rfl⟩:=List.getElem_of_mem hx
    have:=h2 j (by omega)
    rw[List.getElem?_eq_getElem hj] at this
    simpa using this
   rw[hr,this];rfl
theorem Nt(n:Int)(ns:List Int)(hl:ns.length≤140737488355328)(v0:Nat):Spec Tryz.prog 214 [.own 0 v0 1 0 ns.length,.val (.int .i64 n)] [⟨v0,.row 1 (dy .i64) 0 ns⟩] (bZ (.val (.bool (decide (n∈ns)))) [⟨v0,.row 1 (dy .i64) 0 ns⟩]):=by
 obtain⟨r,hr⟩:∃r:Int,r=match ns.idxOf? n with | some i=>(i:Int) | none=> -1:=⟨_,rfl⟩
 refine ax ai Tryz.func214 rfl Tryz.ntmps214 Tryz.results214 ?_
 refine gg ?_
 refine aY (Ns n ns hl v0 r hr) Tryz.call221 [0] ?_
 refine gg ?_
 refine⟨_,congrArg AV.val (congrArg Value.bool ?_),rfl⟩
 rw[Bool.eq_iff_iff,decide_eq_true_iff,decide_eq_true_iff,hr]
 split
 ·rename_i i hi
  simp only[Int.natCast_nonneg,true_iff]
  rw[List.idxOf?,List.findIdx?_eq_some_iff_getElem] at hi
  obtain⟨h1,h2,_⟩:=hi
  have:ns[i]=n:=by simpa using h2
  exact this▸List.getElem_mem h1
 ·rename_i hi
  rw[List.idxOf?,List.findIdx?_eq_none_iff] at hi
  constructor
  ·intro h;omega
  ·intro h;exact absurd (hi n h) (by simp)
theorem GP(n:Int):Spec Tryz.prog 187 [.val (.int .i64 n)] [] (bZ (.val (.bool (decide (n=1∨n=2∨n=4∨n=8)))) []):=by
 refine ax ai Tryz.func187 rfl Tryz.ntmps187 Tryz.results187 ?_
 refine gg ?_
 refine aY (Nt n [1,2,4,8] (by decide) 2) Tryz.call214 [3] ?_
 refine gg ?_
 refine⟨_,congrArg AV.val (congrArg Value.bool ?_),rfl⟩
 simp only[List.mem_cons,List.not_mem_nil,or_false]
theorem yb (l : List UInt8) (hl : l.length ≤ 140737488355328) (z : Nat) : Spec Tryz.prog 65 [.bs z l] []
   (ak (.own 5 2 1 0 l.length) [] [(5,⟨2,.bytes l⟩)]):=by
 refine nh ai Tryz.func65 rfl Tryz.ntmps65 Tryz.results65 ?_
 refine gg ?_
 conv=>whnf
 intro b hb
 cases b with
 | true=>
  have h0:=hb rfl
  have gJ:l=[]:=List.eq_nil_of_length_eq_zero h0
  subst gJ
  refine gg ?_
  (refine aH ?_)
  refine⟨_,lH 5 2 (.bytes []) rfl (by decide) rfl (t':=[.any,.any,.own 5 2 1 0 0,.any,.any,.any,.any,.any]) ?_,?_⟩
  ·simp[jz,bc,aJ,aM,bu,dO,bF,bb,eF,dg,cL]
  refine gg ?_
  exact⟨_,rfl,rfl,by simp[allM,bb]⟩
 | false=>
  refine gg ?_
  conv=>whnf
  refine⟨l,?_⟩
  conv=>whnf
  refine And.intro ?_ ?_
  ·refine⟨rfl,trivial,rfl,rfl,rfl,rfl,rfl,rfl,?_,by decide⟩
   simp only[List.map_nil,List.length_nil]
   omega
  refine gg ?_
  refine⟨_,jb _,?_⟩
  refine gg ?_
  refine⟨_,?_,rfl,rfl,trivial⟩
  simp only[lA,List.map_nil,List.length_nil,Nat.zero_add]
def bz(n:Nat)(x:Int):List UInt8:=(List.range n).map fun(i:Nat)=>UInt8.ofNat (x/2^(8*(i:Int)).toNat%256).toNat
theorem ec(n:Nat)(x:Int):(bz n x).length=n:=by simp[bz]
theorem B4(n:Nat)(x:Int):bz (n+1) x=bz n x++[UInt8.ofNat (x/2^(8*(n:Int)).toNat%256).toNat]:=by simp[bz,List.range_succ]
theorem Nu(l m:List UInt8)(k:Nat)(b:UInt8):(l++(m++List.replicate (k+1) 0)).set (l.length+m.length) b=l++((m++[b])++List.replicate k 0):=by
 rw[List.set_append_right _ _ (by omega),show l.length+m.length - l.length=m.length by omega,List.set_append_right _ _ (Nat.le_refl _),Nat.sub_self,List.replicate_succ,List.set_cons_zero]
 simp
theorem Nv (l : List UInt8) (hl : l.length ≤ 1000000000) (z : Nat) (x : Int) (hx : 0 ≤ x ∧ x ≤ 18446744073709551615) (n : Int) (hn : n = 1 ∨ n = 2 ∨ n = 4 ∨ n = 8) : Spec Tryz.prog 154 [.bs z l, .val (.int .u64 x), .val (.int .i64 n), .clo 155 []] []
   (ak (.own 12 4 1 0 (l.length+n.toNat)) [] [(12,⟨4,.bytes (l++bz n.toNat x)⟩)]):=by
 refine nh ai Tryz.func154 rfl Tryz.ntmps154 Tryz.results154 ?_
 refine gg ?_
 refine af (yb l (by omega) z) Tryz.call65 0 [0,0,0,0,0,12] [0,0,0,0,0,1] [5] ?_
 refine gg ?_
 refine aY (GP n) Tryz.call187 [] ?_
 have hs:decide (n=1∨n=2∨n=4∨n=8)=true:=by simpa using hn
 rw[hs]
 refine gg ?_
 conv=>whnf
 refine⟨List.replicate n.toNat 0,?_⟩
 conv=>whnf
 refine And.intro ?_ ?_
 ·refine⟨rfl,⟨by omega,by simp only[Nat.mul_one];omega,by omega,rfl,rfl⟩,rfl,rfl,rfl,rfl,rfl,by simp[dJ,bv],?_,by decide⟩
  simp only[List.length_replicate,Nat.mul_one]
  omega
 refine gg ?_
 (refine aH ?_)
 conv=>whnf
 simp only[List.length_replicate]
 refine cE (fun i:Nat=>i≤n.toNat) (fun i=>n.toNat - i) 0 [10,21,22,23,24,25,26,27,28,29,30,31,32,33,34,35,36,37] (fun i=>[(21,.val (.int .i64 i))]) (fun i=>[(12,⟨4,.bytes (l++(bz i x++List.replicate (n.toNat - i) 0))⟩)]) 0 (Nat.zero_le _) ?_ ?_ ?_
 ·exact no_implicit_lambda%ten
 ·exact no_implicit_lambda%b6
 ·rintro i v h1
  refine cF ?_
  refine gg ?_
  refine⟨fun h=> ?_,fun h=> ?_⟩
  ·have hi:i<n.toNat:=by have:=of_decide_eq_true h;omega
   refine gg ?_
   (refine aH ?_)
   refine bL (p:=0) ai hm [0,0,2,0,0,24,62,0,0,256,896,1920,4095,8191] [⟨0,false,false,[]⟩,⟨1,false,false,[]⟩,⟨2,false,false,[]⟩,⟨3,false,false,[]⟩,⟨4,false,false,[]⟩,⟨7,false,false,[]⟩,⟨8,false,false,[]⟩,⟨9,false,false,[]⟩,⟨10,false,false,[]⟩,⟨11,false,false,[]⟩,⟨5,true,true,[24,25,26,30,31,32,33,34,35,36]⟩,⟨6,false,false,[]⟩,⟨12,true,false,[]⟩,⟨13,true,true,[]⟩] (by kernel_rfl) ?_
   refine gg ?_
   refine aY (GO i) Tryz.call155 [] ?_
   refine gg ?_
   (refine aH ?_)
   refine And.intro ?_ ?_
   ·refine⟨rfl,rfl,rfl,?_,⟨by omega,by omega⟩,rfl⟩
    simp only[List.length_append,ec,List.length_replicate]
    omega
   refine gg ?_
   have kW:(l++(bz i x++List.replicate (n.toNat - i) 0)).set (0+((l.length:Int)+(i:Int)).toNat) (UInt8.ofNat (x/2^(8*(i:Int)).toNat%256).toNat)=l++(bz (i+1) x++List.replicate (n.toNat - (i+1)) 0):=by
    rw[B4,←Nu,ec,show n.toNat - i=n.toNat - (i+1)+1 by omega,show 0+((l.length:Int)+(i:Int)).toNat=l.length+i by omega]
   refine nZ (i+1) (by omega) (by show n.toNat - (i+1)<n.toNat - i;omega) ?_ ?_
   ·exact no_implicit_lambda%ten
   ·rw[kW]
    exact no_implicit_lambda%b6
  ·refine gg ?_
   (refine aH ?_)
   have hi:i=n.toNat:=by have:=of_decide_eq_false h;omega
   subst hi
   refine⟨_,jb _,?_⟩
   refine gg ?_
   refine⟨_,rfl,rfl,?_,trivial⟩
   simp only[Nat.sub_self,List.replicate_zero,List.append_nil]
   rfl
theorem GQ (l : List UInt8) (hl : l.length ≤ 1000000000) (z : Nat) (x : Int) (hx : 0 ≤ x ∧ x ≤ 18446744073709551615) (n : Int) (hn : n = 1 ∨ n = 2 ∨ n = 4 ∨ n = 8) : Spec Tryz.prog 110 [.bs z l, .val (.int .u64 x), .val (.int .i64 n)] []
   (ak (.own 7 5 1 0 (l.length+n.toNat)) [] [(7,⟨5,.bytes (l++bz n.toNat x)⟩)]):=by
 refine ax ai Tryz.func110 rfl Tryz.ntmps110 Tryz.results110 ?_
 refine gg ?_
 refine af (Nv l hl z x hx n hn) Tryz.call154 0 [0,0,0,0,0,0,0,0,0,0,0,0,7] [0,0,0,0,0,0,0,0,0,0,0,0,1] [12] ?_
 refine gg ?_
 exact⟨_,rfl,rfl,rfl,trivial⟩
def dG:List UInt8→Nat
 | []=>0
 | c::l=>c.toNat+256*dG l
theorem pd:∀(l:List UInt8),dG l<256^l.length
 | []=>by simp[dG]
 | c::l=>by
  have:=pd l
  have hc:=c.toNat_lt
  simp only[dG,List.length_cons,Nat.pow_succ]
  omega
theorem B5(c:UInt8):∀(l:List UInt8),dG (l++[c])=256^l.length*c.toNat+dG l
 | []=>by simp[dG]
 | d::l=>by
  simp only[List.cons_append,dG,B5 c l,List.length_cons,Nat.pow_succ]
  rw[Nat.mul_add,Nat.mul_comm (256^l.length) 256,Nat.mul_assoc]
  omega
theorem Nw(l:List UInt8)(i:Nat)(hi:i<l.length)(h8:i≤7):(dG (l.take i)|||(((l.getD i 0).toNat:Int)*2^(8*(i:Int)).toNat%18446744073709551616).toNat)=dG (l.take (i+1)):=by
 have h1:=pd (l.take i)
 have hlen:(l.take i).length=i:=by simp;omega
 rw[hlen] at h1
 have hp:(256:Nat)^i=2^(8*i):=by rw[show(256:Nat)=2^8 from rfl,←Nat.pow_mul]
 have hb:(256:Nat)^i≤256^7:=Nat.pow_le_pow_right (by decide) h8
 have hc:=(l.getD i 0).toNat_lt
 have e1:(8*(i:Int)).toNat=8*i:=by omega
 have e2:((l.getD i 0).toNat:Int)*2^(8*(i:Int)).toNat=((256^i*(l.getD i 0).toNat:Nat):Int):=by
  rw[e1,hp]
  push_cast
  exact Int.mul_comm _ _
 have h3:256^i*(l.getD i 0).toNat<18446744073709551616:=by
  have:256^i*(l.getD i 0).toNat≤256^7*255:=Nat.mul_le_mul hb (by omega)
  omega
 rw[e2,show(((256^i*(l.getD i 0).toNat:Nat):Int)%18446744073709551616).toNat=256^i*(l.getD i 0).toNat by omega]
 have h4:l.take (i+1)=l.take i++[l.getD i 0]:=by
  rw[List.take_add_one,List.getElem?_eq_getElem hi];simp[hi]
 rw[h4,B5,hlen,Nat.or_comm,hp,Nat.two_pow_add_eq_or_of_lt (by rw[←hp];exact h1)]
theorem Nx (b : List UInt8) (hb : b.length ≤ 140737488355328) (z : Nat) (at_ n : Int) (ha : aX at_) (hn : aX n) (X : Int × Int) (hX : X = if (n = 1 ∨ n = 2 ∨ n = 4 ∨ n = 8) ∧ 0 ≤ at_ ∧ 0 ≤ n ∧ at_ + n ≤ b.length then ((dG ((b.drop at_.toNat).take n.toNat) : Int), 0) else (0, 1)) : Spec Tryz.prog 177 [.bs z b, .val (.int .i64 at_), .val (.int .i64 n), .clo 155 []] []
   (bZ (.aD [.val (.int .u64 X.1),.val (.int .i64 X.2)]) []):=by
 refine ax ai Tryz.func177 rfl Tryz.ntmps177 Tryz.results177 ?_
 refine gg ?_
 refine aY (GP n) Tryz.call187 [] ?_
 by_cases hs:n=1∨n=2∨n=4∨n=8
 ·rw[decide_eq_true hs]
  refine gg ?_
  (refine aH ?_)
  refine ji (k:= ?_)
  refine aY (Nr z b hb at_ n ha hn) Tryz.call211 [] ?_
  by_cases hw:0≤at_∧0≤n∧at_+n≤b.length
  ·rw[decide_eq_true hw]
   rw[if_pos ⟨hs,hw⟩] at hX
   refine gg ?_
   (refine aH ?_)
   conv=>whnf
   obtain⟨l,hl⟩:∃l,l=(b.drop at_.toNat).take n.toNat:=⟨_,rfl⟩
   rw[←hl] at hX
   have B6:l.length=n.toNat:=by rw[hl];simp;omega
   refine cE (fun i:Nat=>i≤n.toNat) (fun i=>n.toNat - i) 0 [8,10,22,23,24,25,26,27,28,29,30,31,32,33,34,35,36,37,38,39] (fun i=>[(8,.val (.int .u64 (dG (l.take i)))),(22,.val (.int .i64 i))]) (fun i=>[]) 0 (Nat.zero_le _) ?_ ?_ ?_
   ·exact no_implicit_lambda%ten
   ·exact no_implicit_lambda%b6
   ·rintro i v h1
    refine cF ?_
    refine gg ?_
    refine⟨fun h=> ?_,fun h=> ?_⟩
    ·have hi:i<n.toNat:=by have:=of_decide_eq_true h;omega
     refine gg ?_
     refine aY (GO i) Tryz.call155 [] ?_
     have vg:(dG (l.take i):Int)≤18446744073709551615:=by
      have h1:=pd (l.take i)
      have h2:(l.take i).length≤7:=by simp;omega
      have h3:(256:Nat)^(l.take i).length≤256^7:=Nat.pow_le_pow_right (by decide) h2
      omega
     refine gg ?_
     have hd:b.getD (at_+i).toNat 0=l.getD i 0:=by
      rw[hl,List.getD_eq_getElem?_getD,List.getD_eq_getElem?_getD,List.getElem?_take,if_pos hi,List.getElem?_drop,show(at_+i).toNat=at_.toNat+i by omega]
     have hval:((((dG (l.take i):Int)).toNat|||(((b.getD (at_+i).toNat 0).toNat:Int)%18446744073709551616*2^(8*(i:Int)).toNat%18446744073709551616).toNat:Nat):Int)=dG (l.take (i+1)):=by
      have hc:=(l.getD i 0).toNat_lt
      rw[hd,show((l.getD i 0).toNat:Int)%18446744073709551616=(l.getD i 0).toNat by omega,Int.toNat_natCast,Nw l i (by omega) (by omega)]
     rw[hval]
     exact bk (i+1) (by omega) (by show n.toNat - (i+1)<n.toNat - i;omega)
    ·refine gg ?_
     have hi:i=n.toNat:=by have:=of_decide_eq_false h;omega
     rw[hX,hi,←B6,List.take_length]
     exact⟨_,rfl,rfl⟩
  ·rw[decide_eq_false hw]
   rw[if_neg (fun h=>hw h.2)] at hX
   refine gg ?_
   rw[hX]
   exact⟨_,rfl,rfl⟩
 ·rw[decide_eq_false hs]
  rw[if_neg (fun h=>hs h.1)] at hX
  refine gg ?_
  (refine aH ?_)
  intro _
  refine gg ?_
  rw[hX]
  exact⟨_,rfl,rfl⟩
theorem B7 (b : List UInt8) (hb : b.length ≤ 140737488355328) (z : Nat) (at_ n : Int) (ha : aX at_) (hn : aX n) (X : Int × Int) (hX : X = if (n = 1 ∨ n = 2 ∨ n = 4 ∨ n = 8) ∧ 0 ≤ at_ ∧ 0 ≤ n ∧ at_ + n ≤ b.length then ((dG ((b.drop at_.toNat).take n.toNat) : Int), 0) else (0, 1)) : Spec Tryz.prog 142 [.bs z b, .val (.int .i64 at_), .val (.int .i64 n)] []
   (bZ (.aD [.val (.int .u64 X.1),.val (.int .i64 X.2)]) []):=by
 refine ax ai Tryz.func142 rfl Tryz.ntmps142 Tryz.results142 ?_
 refine gg ?_
 refine aY (Nx b hb z at_ n ha hn X hX) Tryz.call177 [] ?_
 refine gg ?_
 exact⟨_,rfl,rfl⟩
theorem B8 (b : List UInt8) (hb : b.length ≤ 140737488355328) (z : Nat) (at_ n : Int) (ha : aX at_) (hn : n = 2 ∨ n = 4) (hw : 0 ≤ at_ ∧ at_ + n ≤ b.length) : Spec Tryz.prog 157 [.bs z b, .val (.int .i64 at_), .val (.int .i64 n)] []
   (bZ (.val (.int .i64 (dG ((b.drop at_.toNat).take n.toNat)))) []):=by
 refine ax ai Tryz.func157 rfl Tryz.ntmps157 Tryz.results157 ?_
 refine gg ?_
 refine aY (B7 b hb z at_ n ha (by unfold aX;omega) _ rfl) Tryz.call142 [] ?_
 rw[if_pos ⟨by omega,hw.1,by omega,hw.2⟩]
 have h1:=pd ((b.drop at_.toNat).take n.toNat)
 have h2:((b.drop at_.toNat).take n.toNat).length≤4:=by simp;omega
 have h3:(256:Nat)^((b.drop at_.toNat).take n.toNat).length≤256^4:=Nat.pow_le_pow_right (by decide) h2
 refine gg ?_
 exact⟨_,rfl,rfl⟩
def pe:List Int:=[0,498536548,997073096,651767980,1994146192,1802195444,1303535960,1342533948,3988292384,4027552580,3604390888,3412177804,2607071920,2262029012,2685067896,3183342108]
def sG(x:Int):Int:=(((x/2^(4:Int).toNat).toNat^^^(pe.getD ((x.toNat&&&15:Nat):Int).toNat 0).toNat:Nat):Int)
def oi:Nat→Int→Int
 | 0,x=>x
 | n+1,x=>oi n (sG x)
def k6:List UInt8→Int→Int
 | [],x=>x
 | c::l,x=>k6 l (oi 2 ((x.toNat^^^c.toNat:Nat):Int))
theorem B9{a b:Nat}(ha:a≤4294967295)(hb:b≤4294967295):a^^^b≤4294967295:=by
 have:a^^^b<2^32:=Nat.xor_lt_two_pow (by omega) (by omega)
 omega
theorem GR(i:Nat):0≤pe.getD i 0∧pe.getD i 0≤4294967295:=by
 by_cases h:i<16
 ·have:∀i,i<16→0≤pe.getD i 0∧pe.getD i 0≤4294967295:=by decide
  exact this i h
 ·rw[List.getD_eq_getElem?_getD,List.getElem?_eq_none (by simp[pe];omega)];decide
theorem GS{x:Int}(h:0≤x∧x≤4294967295):0≤sG x∧sG x≤4294967295:=by
 have ht:=GR ((x.toNat&&&15:Nat):Int).toNat
 unfold sG
 have h1:(2:Int)^(4:Int).toNat=16:=rfl
 rw[h1]
 have:=B9 (a:=(x/16).toNat) (b:=(pe.getD ((x.toNat&&&15:Nat):Int).toNat 0).toNat) (by omega) (by omega)
 omega
theorem GU:∀(n:Nat){x:Int},0≤x∧x≤4294967295→0≤oi n x∧oi n x≤4294967295
 | 0,x,h=>h
 | n+1,x,h=>GU n (GS h)
theorem Ca (b : List UInt8) (hb : b.length ≤ 140737488355328) (z : Nat) (x : Int) (hx : 0 ≤ x ∧ x ≤ 4294967295) : Spec Tryz.prog 166 [.val (.int .u32 x), .bs z b] []
   (bZ (.val (.int .u32 (4294967295 - k6 b (4294967295 - x)))) []):=by
 refine ax ai Tryz.func166 rfl Tryz.ntmps166 Tryz.results166 ?_
 obtain⟨R,hR⟩:∃R,R=k6 b (4294967295 - x):=⟨_,rfl⟩
 rw[←hR]
 refine gg ?_
 (refine aH ?_)
 conv=>whnf
 refine cE (fun y:Nat×Int=>y.1≤b.length∧(0≤y.2∧y.2≤4294967295)∧k6 (b.drop y.1) y.2=R) (fun y=>b.length - y.1) 0 [5,7,12,13,14,15,16,17,18,19,20,21,22,23,24,25,26,27,28,29,30] (fun y=>[(5,.val (.int .u32 y.2)),(12,.val (.int .i64 y.1))]) (fun i=>[]) (0,4294967295 - x) ⟨Nat.zero_le _,by omega,hR.symm⟩ ?_ ?_ ?_
 ·exact no_implicit_lambda%ten
 ·exact no_implicit_lambda%b6
 ·rintro⟨i,y⟩ v ⟨h1,h2,h3⟩
  simp only at h1 h2 h3
  refine cF ?_
  refine gg ?_
  refine⟨fun h=> ?_,fun h=> ?_⟩
  ·have hi:i<b.length:=by have:=of_decide_eq_true h;omega
   refine gg ?_
   have hc:=(b.getD (i:Int).toNat 0).toNat_lt
   have ya:(b.getD (i:Int).toNat 0).toNat=(b.getD i 0).toNat:=by rw[Int.toNat_natCast]
   obtain⟨y0,ur⟩:∃y0:Int,y0=((y.toNat^^^(((b.getD (i:Int).toNat 0).toNat:Int)%4294967296).toNat:Nat):Int):=⟨_,rfl⟩
   rw[←ur]
   have vj:0≤y0∧y0≤4294967295:=by
    have:=B9 (a:=y.toNat) (b:=(((b.getD (i:Int).toNat 0).toNat:Int)%4294967296).toNat) (by omega) (by omega)
    omega
   have n5:k6 (b.drop (i+1)) (oi 2 y0)=R:=by
    rw[←h3,List.drop_eq_getElem_cons hi,k6,ur]
    congr 2
    rw[show(((b.getD (i:Int).toNat 0).toNat:Int)%4294967296).toNat=(b[i]).toNat by simp only[Int.toNat_natCast,List.getD_eq_getElem?_getD,List.getElem?_eq_getElem hi,Option.getD_some];have:=(b[i]).toNat_lt;omega]
   (refine aH ?_)
   conv=>whnf
   refine cE (fun q:Nat×Int=>q.1≤2∧(0≤q.2∧q.2≤4294967295)∧oi (2 - q.1) q.2=oi 2 y0) (fun q=>2 - q.1) 0 [5,20,21,22,23,24,25,26,27,28,29] (fun q=>[(5,.val (.int .u32 q.2)),(20,.val (.int .i64 q.1))]) (fun i=>[]) (0,y0) ⟨Nat.zero_le _,vj,rfl⟩ ?_ ?_ ?_
   ·exact no_implicit_lambda%ten
   ·exact no_implicit_lambda%b6
   ·rintro⟨j,q⟩ v ⟨g1,g2,g3⟩
    simp only at g1 g2 g3
    refine cF ?_
    refine gg ?_
    refine⟨fun h=> ?_,fun h=> ?_⟩
    ·have hj:j<2:=by have:=of_decide_eq_true h;omega
     have hand:q.toNat&&&15≤15:=Nat.and_le_right
     refine gg ?_
     (refine aH ?_)
     refine And.intro ?_ ?_
     ·refine⟨by omega,?_,rfl,rfl,by decide⟩
      exact Int.ofNat_lt.2 (Nat.lt_succ_of_le hand)
     have ht:=GR ((q.toNat&&&Int.toNat 15:Nat):Int).toNat
     unfold pe at ht
     have hq:0≤q/2^Int.toNat 4∧q/2^Int.toNat 4≤4294967295:=by
      have:(2:Int)^Int.toNat 4=16:=rfl
      rw[this];omega
     refine gg ?_
     refine nZ (j+1,sG q) ⟨by show j+1≤2;omega,GS g2,?_⟩ (by show 2 - (j+1)<2 - j;omega) ?_ ?_
     ·show oi (2 - (j+1)) (sG q)=_
      rw[←g3,show 2 - j=2 - (j+1)+1 by omega,oi]
     ·exact no_implicit_lambda%ten
     ·exact no_implicit_lambda%b6
    ·refine gg ?_
     have hj:j=2:=by have:=of_decide_eq_false h;omega
     rw[hj] at g3
     refine nZ (i+1,q) ⟨by show i+1≤b.length;omega,g2,?_⟩ (by show b.length - (i+1)<b.length - i;omega) ?_ ?_
     ·show k6 (b.drop (i+1)) q=R
      rw[←n5,←g3];rfl
     ·exact no_implicit_lambda%ten
     ·exact no_implicit_lambda%b6
  ·refine gg ?_
   have hi:i=b.length:=by have:=of_decide_eq_false h;omega
   rw[hi,List.drop_length,k6] at h3
   rw[h3]
   exact⟨_,rfl,rfl⟩
theorem Ny (b : List UInt8) (hb : b.length ≤ 140737488355328) (z : Nat) : Spec Tryz.prog 167 [.bs z b] []
   (bZ (.val (.int .u32 (4294967295 - k6 b (4294967295 - 0)))) []):=by
 refine ax ai Tryz.func167 rfl Tryz.ntmps167 Tryz.results167 ?_
 refine gg ?_
 refine aY (Ca b hb z 0 (by decide)) Tryz.call166 [] ?_
 refine gg ?_
 exact⟨_,rfl,rfl⟩
theorem Nz(n:Nat)(hn:n≤1000000000):Spec Tryz.prog 153 [.val (.slice none 0 0),.val (.int .i64 n)] [] (ak (.own 22 2 1 0 0) [] [(22,⟨2,.bytes []⟩)]):=by
 refine nh ai Tryz.func153 rfl Tryz.ntmps153 Tryz.results153 ?_
 have h0:decide ((n:Int)<0)=false:=by simp
 refine gg ?_
 rw[h0]
 refine gg ?_
 refine⟨fun h=> ?_,fun h=> ?_⟩
 ·refine gg ?_
  conv=>whnf
  refine⟨List.replicate n 0,?_⟩
  conv=>whnf
  refine And.intro ?_ ?_
  ·refine⟨⟨by omega,by simp only[Nat.mul_one];omega,by omega,rfl,rfl⟩,rfl,rfl,?_,?_,by decide⟩
   ·rw[show((n:Int) - (0 - 0)).toNat=n by omega];simp[dJ,bv]
   ·simp only[List.length_replicate,Nat.mul_one];omega
  refine gg ?_
  (refine aH ?_)
  refine⟨_,Bn 22 ⟨2,.bytes []⟩ rfl (dt.take 2 _ 0),?_⟩
  refine gg ?_
  exact⟨_,rfl,rfl,rfl,trivial⟩
 ·refine gg ?_
  (refine aH ?_)
  refine⟨_,lH 22 2 (.bytes []) rfl (by decide) rfl (t':=[.any,.any,.any,.any,.own 22 2 1 0 0,.any,.any,.any,.any,.any,.any,.any,.any,.any,.any,.any,.any,.any,.any,.any,.any,.any,.any,.any,.any,.any,.any]) ?_,?_⟩
  ·simp[jz,bc,aJ,aM,bu,dO,bF,bb,eF,dg,cL]
  refine gg ?_
  exact⟨_,rfl,rfl,rfl,trivial⟩
theorem GV(ls:List (List UInt8))(i:Nat)(hi:i<ls.length):(ls.take (i+1)).flatten=(ls.take i).flatten++ls.getD i []:=by
 have h1:ls.take (i+1)=ls.take i++[ls[i]]:=by rw[List.take_add_one,List.getElem?_eq_getElem hi];rfl
 rw[h1,List.flatten_append,List.getD_eq_getElem?_getD,List.getElem?_eq_getElem hi]
 simp only[List.flatten_cons,List.flatten_nil,List.append_nil,Option.getD_some]
theorem GW(ls:List (List UInt8))(i:Nat):(ls.take i).flatten.length≤ls.flatten.length:=by
 have:ls.flatten=(ls.take i).flatten++(ls.drop i).flatten:=by rw[←List.flatten_append,List.take_append_drop]
 rw[this,List.length_append];omega
theorem GX(ls:List (List UInt8))(UY:ls.length≤1000)(hl:ls.flatten.length≤1000000000)(z:Nat):Spec Tryz.prog 109 [.sl z 1 (fun l=>[.bs 0 l]) [] ls] [] (ak (.own 24 (3+ls.length) 1 0 ls.flatten.length) [] [(24,⟨3+ls.length,.bytes ls.flatten⟩)]):=by
 refine nh ai Tryz.func109 rfl Tryz.ntmps109 Tryz.results109 ?_
 refine gg ?_
 (refine aH ?_)
 conv=>whnf
 refine cE (fun i:Nat=>i≤ls.length) (fun i=>ls.length - i) 0 [3,5,11,12,13,14,15,16,17,18,19,20,21,22] (fun i=>[(3,.val (.int .i64 (ls.take i).flatten.length)),(11,.val (.int .i64 i))]) (fun i=>[]) 0 (Nat.zero_le _) ?_ ?_ ?_
 ·exact no_implicit_lambda%ten
 ·exact no_implicit_lambda%b6
 ·rintro i v h1
  refine cF ?_
  refine gg ?_
  refine⟨fun h=> ?_,fun h=> ?_⟩
  ·have hi:i<ls.length:=by have:=of_decide_eq_true h;omega
   have hs:=GV ls i hi
   have hle:=GW ls (i+1)
   have hlen:=congrArg List.length hs
   rw[List.length_append] at hlen
   have hd:ls.getD ((i:Nat):Int).toNat []=ls.getD i []:=by rw[Int.toNat_natCast]
   rw[←hd] at hlen
   have ah:decide (((ls.take i).flatten.length:Int)+((ls.getD ((i:Nat):Int).toNat []).length:Int)<0)=false:=decide_eq_false (by omega)
   refine gg ?_
   rw[ah]
   refine gg ?_
   refine nZ (i+1) (by omega) (by show ls.length - (i+1)<ls.length - i;omega) ?_ ?_
   ·rw[←Int.natCast_add,←hlen]
    exact no_implicit_lambda%ten
   ·exact no_implicit_lambda%b6
  ·refine gg ?_
   have hi:i=ls.length:=by have:=of_decide_eq_false h;omega
   subst hi
   rw[List.take_length]
   refine af (Nz ls.flatten.length hl) Tryz.call153 0 [0,0,0,0,0,0,0,0,0,0,0,0,0,0,0,0,0,0,0,0,0,0,24] [0,0,0,0,0,0,0,0,0,0,0,0,0,0,0,0,0,0,0,0,0,0,1] [22] ?_
   refine gg ?_
   (refine aH ?_)
   conv=>whnf
   refine cE (fun i:Nat=>i≤ls.length) (fun i=>ls.length - i) 0 [6,8,27,28,29,30,31,32,33,34] (fun i=>[(6,.own 24 (3+i) 1 0 (ls.take i).flatten.length),(27,.val (.int .i64 i))]) (fun i=>[(24,⟨3+i,.bytes (ls.take i).flatten⟩)]) 0 (Nat.zero_le _) ?_ ?_ ?_
   ·exact no_implicit_lambda%ten
   ·exact no_implicit_lambda%b6
   ·rintro i v h1
    refine cF ?_
    refine gg ?_
    refine⟨fun h=> ?_,fun h=> ?_⟩
    ·have hi:i<ls.length:=by have:=of_decide_eq_true h;omega
     have hs:=GV ls i hi
     have hle:=GW ls (i+1)
     have hlen:=congrArg List.length hs
     rw[List.length_append] at hlen
     have hd:ls.getD ((i:Nat):Int).toNat []=ls.getD i []:=by rw[Int.toNat_natCast]
     refine gg ?_
     conv=>whnf
     refine⟨ls.getD ((i:Nat):Int).toNat [],?_⟩
     conv=>whnf
     refine And.intro ?_ ?_
     ·refine⟨rfl,trivial,rfl,rfl,rfl,rfl,rfl,rfl,?_,by decide⟩
      rw[hd]
      simp only[Nat.mul_one];omega
     refine gg ?_
     rw[hd,←hlen,←hs]
     exact bk (i+1) (by omega) (by show ls.length - (i+1)<ls.length - i;omega)
    ·have hi:i=ls.length:=by have:=of_decide_eq_false h;omega
     subst hi
     rw[List.take_length]
     refine gg ?_
     (refine aH ?_)
     refine⟨_,jb _,?_⟩
     refine gg ?_
     exact⟨_,rfl,rfl,rfl,trivial⟩
theorem vl {P : Program} {f : FuncId} {rest : List AV} {X : AV} {mk : List (Nat × J)} {l : List UInt8} (o n : Nat) (h : o + n ≤ l.length) (S : Spec P f (.bs 0 ((l.drop o).take n) :: rest) [] (ak X [] mk)) (hX : n0 X) (jc : uQ mk) (Bg : ∀ rows, uS rows rest rest) (v : Nat) :
    Spec P f (.own 0 v 1 o n::rest) [⟨v,.bytes l⟩] (ak (bJ (np 1) X) [⟨v,.bytes l⟩] (uP 1 mk)):=
 kC S hX jc (rows:=[⟨v,.bytes l⟩]) (args:= .own 0 v 1 o n::rest) (eA (ml (l:=l) rfl h) (Bg _))
theorem whole(l:List UInt8):(l.drop 0).take l.length=l:=by rw[List.drop_zero,List.take_length]
theorem vp (l : List UInt8) (L : Nat) (hL : L = l.length) (hl : L ≤ 1000000000) (v : Nat) (x : Int) (hx : 0 ≤ x ∧ x ≤ 18446744073709551615) (n : Int) (hn : n = 1 ∨ n = 2 ∨ n = 4 ∨ n = 8) (R : List UInt8) (K : Nat) (hR : R = l ++ bz n.toNat x) (hK : K = L + n.toNat) : Spec Tryz.prog 110 [.own 0 v 1 0 L, .val (.int .u64 x), .val (.int .i64 n)] [⟨v, .bytes l⟩]
   (ak (.own 8 5 1 0 K) [⟨v,.bytes l⟩] [(8,⟨5,.bytes R⟩)]):=by
 subst hL hR hK
 have h:=vl (l:=l) 0 l.length (by omega) (GQ ((l.drop 0).take l.length) (by rw[whole];exact hl) 0 x hx n hn) trivial ⟨trivial,trivial⟩ (fun _=>eA o5 (eA o5 iq)) v
 rw[whole] at h
 exact h
def lM(s:Int)(b:List UInt8):Int:=4294967295 - k6 b (4294967295 - s)
theorem GY:∀(b:List UInt8){x:Int},0≤x∧x≤4294967295→0≤k6 b x∧k6 b x≤4294967295
 | [],x,h=>h
 | c::b,x,h=>by
  rw[k6]
  have hc:=c.toNat_lt
  have:=B9 (a:=x.toNat) (b:=c.toNat) (by omega) (by omega)
  exact GY b (GU 2 (by omega))
theorem sH(b:List UInt8){x:Int}(h:0≤x∧x≤4294967295):0≤lM x b∧lM x b≤4294967295:=by
 have:=GY b (x:=4294967295 - x) (by omega)
 unfold lM;omega
theorem GZ(l:List UInt8)(L:Nat)(hL:L=l.length)(hl:l.length≤140737488355328)(v:Nat):Spec Tryz.prog 167 [.own 0 v 1 0 L] [⟨v,.bytes l⟩] (ak (.val (.int .u32 (lM 0 l))) [⟨v,.bytes l⟩] []):=by
 subst hL
 have h:=vl (l:=l) 0 l.length (by omega) (uX (Ny ((l.drop 0).take l.length) (by rw[whole];exact hl) 0)) trivial trivial (fun _=>iq) v
 rw[whole] at h
 exact h
theorem qN(k v:Int)(hk:0≤k∧k≤4611686018427387903)(hv:0≤v∧v≤4611686018427387000):Spec Tryz.prog 78 [.val (.int .i64 k),.val (.int .i64 v)] [] (bZ (.val (.int .i64 (12+k+v))) []):=by
 refine ax ai Tryz.func78 rfl Tryz.ntmps78 Tryz.results78 ?_
 refine gg ?_
 exact⟨_,rfl,rfl⟩
def lN(g:Int):List UInt8:=[76,78,84,76]++bz 4 g
def cY(g:Int):List UInt8:=lN g++bz 4 (lM 0 (lN g))
theorem yc(g:Int):(lN g).length=8:=by simp[lN,ec]
theorem jD(g:Int):(cY g).length=12:=by simp[cY,yc,ec]
theorem G0(g:Int)(hg:0≤g∧g≤4294967295):Spec Tryz.prog 158 [.val (.int .u32 g)] [] (ak (.own 13 6 1 0 12) [] [(13,⟨6,.bytes (cY g)⟩)]):=by
 have hb:=sH (lN g) (x:=0) (by decide)
 refine ax ai Tryz.func158 rfl Tryz.ntmps158 Tryz.results158 ?_
 refine gg ?_
 refine af (vp [76,78,84,76] 4 rfl (by decide) 1 (g%18446744073709551616) (by omega) 4 (by decide) (lN g) 8 (by rw[show g%18446744073709551616=g by omega];rfl) rfl) Tryz.call110 1 [4,0,0,0,0,0,0,0,8] [0,0,0,0,0,0,0,0,1] [8] ?_
 refine gg ?_
 refine af (GZ (lN g) 8 (yc g).symm (by rw[yc];decide) 6) Tryz.call167 1 [8] [0] [] ?_
 refine gg ?_
 refine af (vp (lN g) 8 (yc g).symm (by decide) 6 (lM 0 (lN g)%18446744073709551616) (by omega) 4 (by decide) (cY g) 12 (by rw[show lM 0 (lN g)%18446744073709551616=lM 0 (lN g) by omega];rfl) rfl) Tryz.call110 1 [8,0,0,0,0,0,0,0,13] [0,0,0,0,0,0,0,0,1] [8] ?_
 refine gg ?_
 exact⟨_,rfl,rfl,rfl,trivial⟩
def ny(k v:List UInt8):List UInt8:=[165]++bz 2 k.length++bz 4 v.length
def mz(k v:List UInt8):Int:=lM (lM (lM 0 (ny k v)) k) v
def sI(k v:List UInt8):List UInt8:=ny k v++bz 4 (mz k v)
def bI(k v:List UInt8):List UInt8:=[sI k v,k,v].flatten
theorem yd(k v:List UInt8):(ny k v).length=7:=by simp[ny,ec]
theorem G1(k v:List UInt8):(sI k v).length=11:=by simp[sI,yd,ec]
theorem sJ(k v:List UInt8):(bI k v).length=11+k.length+v.length:=by simp[bI,G1];omega
theorem NA(k v:List UInt8):0≤mz k v∧mz k v≤4294967295:=sH _ (sH _ (sH _ (by decide)))
def vu(r v n z:Nat)(k:List UInt8)(z':Nat)(w:List UInt8):Nat→List AV
 | 0=>[.own r v 1 0 n]
 | 1=>[.bs z k]
 | _=>[.bs z' w]
theorem G2{P:Nat→Prop}{r v n z:Nat}{k:List UInt8}{z':Nat}{w:List UInt8}(h:P r):∀a,cR P (vu r v n z k z' w a)
 | 0=>⟨h,trivial⟩
 | 1=>⟨trivial,trivial⟩
 | _+2=>⟨trivial,trivial⟩
theorem NC (h k v : List UInt8) (n : Nat) (hn : n = h.length) (hl : [h, k, v].flatten.length ≤ 1000000000) (z z' v0 v1 : Nat) : Spec Tryz.prog 109 [.own 0 v0 1 0 3] [⟨v0, .row 1 (vu 1 v1 n z k z' v) 0 (List.range 3)⟩, ⟨v1, .bytes h⟩]
    (ak (.own 26 6 1 0 [h,k,v].flatten.length) [⟨v0,.row 1 (vu 1 v1 n z k z' v) 0 (List.range 3)⟩,⟨v1,.bytes h⟩] [(26,⟨6,.bytes [h,k,v].flatten⟩)]):=by
 subst hn
 refine kC (GX [h,k,v] (by show 3≤1000;decide) hl 0) trivial ⟨trivial,trivial⟩ (rows:=[⟨v0,.row 1 (vu 1 v1 h.length z k z' v) 0 (List.range 3)⟩,⟨v1,.bytes h⟩]) (args:=[.own 0 v0 1 0 3]) (eA (F5 (l0:=List.range 3) rfl rfl rfl fun i x l hi eD=> ?_) iq)
 match i with
 | 0=>
  cases hi;cases eD
  refine⟨_,rfl,?_⟩
  have:=ml (rows:=[⟨v0,.row 1 (vu 1 v1 h.length z k z' v) 0 (List.range 3)⟩,⟨v1,.bytes h⟩]) (r:=1) (ver:=v1) (l:=h) (off:=0) (n:=h.length) rfl (by omega)
  rw[whole] at this
  exact this
 | 1=>cases hi;cases eD;exact⟨_,rfl,sv⟩
 | 2=>cases hi;cases eD;exact⟨_,rfl,sv⟩
 | i+3=>simp at eD
theorem G3(k v:List UInt8)(hk:k.length≤100000000)(hv:v.length≤100000000)(z z':Nat):Spec Tryz.prog 124 [.bs z k,.bs z' v] [] (ak (.own 30 7 1 0 (bI k v).length) [] [(30,⟨7,.bytes (bI k v)⟩)]):=by
 have hc:=NA k v
 have eL:=sH (ny k v) (x:=0) (by decide)
 have iR:=sH k eL
 refine ax ai Tryz.func124 rfl Tryz.ntmps124 Tryz.results124 ?_
 refine gg ?_
 refine af (vp [165] 1 rfl (by decide) 1 ((k.length:Int)%18446744073709551616) (by omega) 2 (by decide) ([165]++bz 2 k.length) 3 (by rw[show(k.length:Int)%18446744073709551616=k.length by omega];rfl) rfl) Tryz.call110 1 [7,0,0,0,0,0,0,0,11] [0,0,0,0,0,0,0,0,1] [8] ?_
 refine gg ?_
 refine af (vp ([165]++bz 2 k.length) 3 (by simp[ec]) (by decide) 6 ((v.length:Int)%18446744073709551616) (by omega) 4 (by decide) (ny k v) 7 (by rw[show(v.length:Int)%18446744073709551616=v.length by omega];rfl) rfl) Tryz.call110 1 [11,0,0,0,0,0,0,0,16] [0,0,0,0,0,0,0,0,1] [8] ?_
 refine gg ?_
 refine af (GZ (ny k v) 7 (yd k v).symm (by rw[yd];decide) 6) Tryz.call167 1 [16] [0] [] ?_
 refine gg ?_
 refine aY (Ca k (by omega) z (lM 0 (ny k v)) eL) Tryz.call166 [] ?_
 refine gg ?_
 refine aY (Ca v (by omega) z' _ iR) Tryz.call166 [] ?_
 refine gg ?_
 refine af (vp (ny k v) 7 (yd k v).symm (by decide) 6 (mz k v%18446744073709551616) (by omega) 4 (by decide) (sI k v) 11 (by rw[show mz k v%18446744073709551616=mz k v by omega];rfl) rfl) Tryz.call110 1 [16,0,0,0,0,0,0,0,26] [0,0,0,0,0,0,0,0,1] [8] ?_
 refine gg ?_
 refine B3 (NC (sI k v) k v 11 (G1 k v).symm (by show(bI k v).length≤_;rw[sJ];omega) z z' 1 6) Tryz.call109 (hr2:=⟨G2 rfl,trivial,trivial⟩) 2 [29,26,0,0,0,0,0,0,0,0,0,0,0,0,0,0,0,0,0,0,0,0,0,0,0,0,30] [0,0,0,0,0,0,0,0,0,0,0,0,0,0,0,0,0,0,0,0,0,0,0,0,0,0,1] [26] ?_ ?_
 ·refine⟨⟨G2 (by decide),_,rfl,dt.row 1 1 rfl⟩,⟨trivial,_,rfl,dt.refl _⟩,trivial⟩
 refine gg ?_
 exact⟨_,rfl,rfl,rfl,trivial⟩
theorem G4(a b:List UInt8):decide ((strOf a).data.toList=(strOf b).data.toList)=decide (a=b):=by rw[Bool.eq_iff_iff,decide_eq_true_iff,decide_eq_true_iff];simp[strOf]
theorem Cb(a b:List UInt8)(z z':Nat):Spec Tryz.prog 125 [.bs z a,.bs z' b] [] (bZ (.val (.bool (decide (a=b)))) []):=by
 refine ax ai Tryz.func125 rfl Tryz.ntmps125 Tryz.results125 ?_
 refine gg ?_
 refine⟨_,congrArg AV.val (congrArg Value.bool ?_),rfl⟩
 exact G4 a b
theorem ND(a:List UInt8)(z:Nat)(b:List UInt8)(n v:Nat)(hn:n=b.length):Spec Tryz.prog 125 [.bs z a,.own 0 v 1 0 n] [⟨v,.bytes b⟩] (ak (.val (.bool (decide (a=b)))) [⟨v,.bytes b⟩] []):=by
 subst hn
 have:=kC (uX (Cb a ((b.drop 0).take b.length) 0 0)) trivial trivial (rows:=[⟨v,.bytes b⟩]) (args:=[.bs z a,.own 0 v 1 0 b.length]) (eA sv (eA (ml (l:=b) rfl (by omega)) iq))
 rw[whole] at this
 exact this
theorem NF (k v : List UInt8) (kn vn : Nat) (dH : kn = k.length) (vz : vn = v.length) (hk : k.length ≤ 100000000) (hv : v.length ≤ 100000000) (v0 v1 N : Nat) (hN : N = (bI k v).length) : Spec Tryz.prog 124 [.own 0 v0 1 0 kn, .own 1 v1 1 0 vn] [⟨v0, .bytes k⟩, ⟨v1, .bytes v⟩]
    (ak (.own 32 7 1 0 N) [⟨v0,.bytes k⟩,⟨v1,.bytes v⟩] [(32,⟨7,.bytes (bI k v)⟩)]):=by
 subst dH vz hN
 have:=kC (G3 ((k.drop 0).take k.length) ((v.drop 0).take v.length) (by rw[whole];exact hk) (by rw[whole];exact hv) 0 0) trivial ⟨trivial,trivial⟩ (rows:=[⟨v0,.bytes k⟩,⟨v1,.bytes v⟩]) (args:=[.own 0 v0 1 0 k.length,.own 1 v1 1 0 v.length])
  (eA (ml (l:=k) rfl (by omega)) (eA (ml (l:=v) rfl (by omega)) iq))
 rw[whole,whole] at this
 exact this
def bw(x:List UInt8):Nat:=dG ((x.drop 2).take 2)
def fP(x:List UInt8):Nat:=dG ((x.drop 4).take 4)
def dY(x:List UInt8):Nat:=12+bw x+fP x
def dQ(x:List UInt8):List UInt8:=(x.take (12+bw x)).drop 12
def eB(x:List UInt8):List UInt8:=(x.take (dY x)).drop (12+bw x)
def iu(x:List UInt8):Prop:=12≤x.length∧(x.getD 0 0=252∨x.getD 0 0=248)∧1≤bw x∧bw x≤255∧fP x≤65536∧dY x≤x.length∧(x.take (dY x)).drop 1=bI (dQ x) (eB x)
instance (x:List UInt8):Decidable (iu x):=by unfold iu;infer_instance
theorem NH(z:Nat)(x:List UInt8)(h:12≤x.length)(hx:x.length≤140737488355328):Spec Tryz.prog 157 [.bs z x,.val (.int .i64 2),.val (.int .i64 2)] [] (bZ (.val (.int .i64 (bw x))) []):=
 B8 x hx z 2 2 (by unfold aX;omega) (.inl rfl) (by omega)
theorem NI(z:Nat)(x:List UInt8)(h:12≤x.length)(hx:x.length≤140737488355328):Spec Tryz.prog 157 [.bs z x,.val (.int .i64 4),.val (.int .i64 4)] [] (bZ (.val (.int .i64 (fP x))) []):=
 B8 x hx z 4 4 (by unfold aX;omega) (.inr rfl) (by omega)
theorem NJ(x:List UInt8):bw x≤65535:=by
 have h1:=pd ((x.drop 2).take 2)
 have h2:((x.drop 2).take 2).length≤2:=by simp;omega
 have h3:(256:Nat)^((x.drop 2).take 2).length≤256^2:=Nat.pow_le_pow_right (by decide) h2
 unfold bw;omega
theorem NK(x:List UInt8):fP x≤4294967295:=by
 have h1:=pd ((x.drop 4).take 4)
 have h2:((x.drop 4).take 4).length≤4:=by simp;omega
 have h3:(256:Nat)^((x.drop 4).take 4).length≤256^4:=Nat.pow_le_pow_right (by decide) h2
 unfold fP;omega
def vC:AV:= .agg [.val (.slice none 0 0),.val (.slice none 0 0),.val (.bool false)]
def nz(x:List UInt8):Bool:=decide (((x.getD 0 0).toNat:Int)=252)
def Cc(x:List UInt8):AV:= .aD [.agg [.own 54 3 1 0 (dQ x).length,.own 60 3 1 0 (eB x).length,.val (.bool (nz x))],.val (.int .i64 (dY x))]
def NL(x:List UInt8)(X:AV)(H:List J):Prop:=(¬iu x→ak (.aD [vC,.val (.int .i64 0)]) [] [] X H)∧(iu x→ak (Cc x) [] [(54,⟨3,.bytes (dQ x)⟩),(60,⟨3,.bytes (eB x)⟩)] X H)
theorem G5(z:Nat)(x:List UInt8)(hx:x.length≤140737488355328):Spec Tryz.prog 203 [.bs z x] [] (NL x):=by
 have hk:=NJ x
 have hv:=NK x
 have hN:dY x=12+bw x+fP x:=rfl
 refine ax ai Tryz.func203 rfl Tryz.ntmps203 Tryz.results203 ?_
 refine gg ?_
 refine⟨fun h=> ?_,fun h=> ?_⟩
 ·refine gg ?_
  refine⟨fun _=>⟨_,rfl,rfl,trivial⟩,fun hr=> ?_⟩
  exfalso
  rw[Bool.or_eq_true] at h
  rcases h with h | h
  ·have:=of_decide_eq_true h;have:=hr.1;omega
  ·rw[Bool.and_eq_true,Bool.not_eq_true',Bool.not_eq_true',decide_eq_false_iff_not,decide_eq_false_iff_not] at h
   rcases hr.2.1 with q | q
   ·exact h.1 (by show((x.getD 0 0).toNat:Int)=252;rw[q];rfl)
   ·exact h.2 (by show((x.getD 0 0).toNat:Int)=248;rw[q];rfl)
 have h0:x.getD (Int.toNat 0) 0=x.getD 0 0:=rfl
 rw[h0] at h
 have kr:12≤x.length:=by
  simp only[Bool.or_eq_false_iff,decide_eq_false_iff_not] at h;omega
 have cr:x.getD 0 0=252∨x.getD 0 0=248:=by
  rw[Bool.or_eq_false_iff] at h
  have h2:=h.2
  simp only[Bool.and_eq_false_iff,Bool.not_eq_false',decide_eq_true_eq] at h2
  exact h2.imp (fun q=>UInt8.toNat_inj.1 (by exact_mod_cast q)) (fun q=>UInt8.toNat_inj.1 (by exact_mod_cast q))
 refine gg ?_
 refine aY (NH z x kr hx) Tryz.call157 [] ?_
 refine gg ?_
 refine aY (NI z x kr hx) Tryz.call157 [] ?_
 refine gg ?_
 by_cases hb:bw x<1∨255<bw x∨65536<fP x
 ·have e1:(decide ((bw x:Int)<1)||decide (255< (bw x:Int))||decide (65536< (fP x:Int)))=true:=by
    simp only[Bool.or_eq_true,decide_eq_true_eq];omega
  rw[e1]
  (refine aH ?_)
  refine⟨fun hG=>absurd hG (by decide),fun _=> ?_⟩
  refine gg ?_
  exact⟨fun _=>⟨_,rfl,rfl,trivial⟩,fun hr=>absurd hr (by unfold iu;omega)⟩
 have e1:(decide ((bw x:Int)<1)||decide (255< (bw x:Int))||decide (65536< (fP x:Int)))=false:=by
  simp only[Bool.or_eq_false_iff,decide_eq_false_iff_not];omega
 rw[e1]
 refine ji (k:= ?_)
 refine aY (qN (bw x) (fP x) (by omega) (by omega)) Tryz.call78 [] ?_
 refine gg ?_
 refine⟨fun h=> ?_,fun h=> ?_⟩
 ·refine gg ?_
  have h2:x.length<12+bw x+fP x:=by
   rw[Bool.false_or] at h
   have:=of_decide_eq_true h;omega
  exact⟨fun _=>⟨_,rfl,rfl,trivial⟩,fun hr=>absurd hr (by unfold iu;omega)⟩
 have h2:12+bw x+fP x≤x.length:=by
  rw[Bool.false_or] at h
  have:=of_decide_eq_false h;omega
 refine gg ?_
 refine aY (qN (bw x) (fP x) (by omega) (by omega)) Tryz.call78 [] ?_
 refine gg ?_
 (refine aH ?_)
 refine bL (p:=0) ai hm [0,0,2,7,15,0,0,64,0,480,1023,0,2048,6144,14336,32767,0,131071] [⟨0,false,false,[]⟩,⟨1,false,false,[]⟩,⟨2,false,false,[]⟩,⟨3,false,false,[]⟩,⟨5,false,false,[]⟩,⟨6,false,false,[]⟩,⟨7,false,false,[]⟩,⟨8,false,false,[]⟩,⟨9,false,false,[]⟩,⟨11,false,false,[]⟩,⟨12,false,false,[]⟩,⟨13,false,false,[]⟩,⟨14,false,false,[]⟩,⟨16,false,false,[7]⟩,⟨4,true,true,[55,56,57,58,59,60,61,62,63,64,65,7]⟩,⟨10,true,true,[61,62,63,64,65,7]⟩,⟨15,true,false,[7]⟩,⟨17,true,true,[]⟩] (by kernel_rfl) ?_
 refine gg ?_
 have dz:List.drop (Int.toNat 12) (List.take ((12:Int)+(bw x:Int)).toNat x)=dQ x:=by
  unfold dQ;rw[show((12:Int)+(bw x:Int)).toNat=12+bw x by omega];rfl
 have hval:List.drop ((12:Int)+(bw x:Int)).toNat (List.take ((12:Int)+(bw x:Int)+(fP x:Int)).toNat x)=eB x:=by
  unfold eB;rw[hN,show((12:Int)+(bw x:Int)).toNat=12+bw x by omega,show((12:Int)+(bw x:Int)+(fP x:Int)).toNat=12+bw x+fP x by omega]
 have bH:(dQ x).length=bw x:=by unfold dQ;rw[List.length_drop,List.length_take];omega
 have dS:(eB x).length=fP x:=by unfold eB;rw[hN,List.length_drop,List.length_take];omega
 rw[dz]
 refine af (yb (dQ x) (by omega) z) Tryz.call65 0 [0,0,0,0,0,54] [0,0,0,0,0,1] [5] ?_
 refine gg ?_
 rw[hval]
 refine af (yb (eB x) (by omega) z) Tryz.call65 0 [0,0,0,0,0,60] [0,0,0,0,0,1] [5] ?_
 refine gg ?_
 (refine aH ?_)
 refine bL (p:=0) ai hm [0,0,3,0,8,0,32,120,255,511] [⟨0,false,false,[]⟩,⟨1,false,false,[]⟩,⟨2,false,false,[]⟩,⟨3,true,false,[66,67,68,70,71,72,73,74,75]⟩,⟨4,true,false,[66,67,68,71,72,73,74,75]⟩,⟨5,true,false,[66,67,68,69,70,72,73,74,75]⟩,⟨6,true,false,[66,67,68,69,70,73,74,75]⟩,⟨7,true,true,[66,67,68,74,75]⟩,⟨8,true,true,[75]⟩,⟨9,false,false,[]⟩] (by kernel_rfl) ?_
 refine gg ?_
 refine af (NF (dQ x) (eB x) (dQ x).length (eB x).length rfl rfl (by omega) (by omega) 3 3 _ rfl) Tryz.call124 2 [54,60,0,0,0,0,0,0,0,0,0,0,0,0,0,0,0,0,0,0,0,0,0,0,0,0,0,0,0,0,0,0,73] [0,0,0,0,0,0,0,0,0,0,0,0,0,0,0,0,0,0,0,0,0,0,0,0,0,0,0,0,0,0,0,0,1] [32] ?_
 refine gg ?_
 refine af (ND _ z (bI (dQ x) (eB x)) (bI (dQ x) (eB x)).length 8 rfl) Tryz.call125 1 [73] [0] [] ?_
 refine gg ?_
 have gy:List.drop (Int.toNat 1) (List.take ((12:Int)+(bw x:Int)+(fP x:Int)).toNat x)=(x.take (dY x)).drop 1:=by
  rw[hN,show((12:Int)+(bw x:Int)+(fP x:Int)).toNat=12+bw x+fP x by omega];rfl
 rw[gy]
 refine⟨fun h=> ?_,fun h=> ?_⟩
 ·refine gg ?_
  have aG:¬(x.take (dY x)).drop 1=bI (dQ x) (eB x):=by simpa using h
  exact⟨fun _=>⟨_,rfl,rfl,trivial⟩,fun hr=>absurd hr.2.2.2.2.2.2 aG⟩
 ·refine gg ?_
  have he:(x.take (dY x)).drop 1=bI (dQ x) (eB x):=by simpa using h
  have hr:iu x:=⟨kr,cr,by omega,by omega,by omega,by omega,he⟩
  refine⟨fun q=>absurd hr q,fun _=>⟨_,?_,rfl,rfl,rfl,trivial⟩⟩
  unfold Cc nz
  rw[hN]
  rfl
theorem NO(z:Nat)(x:List UInt8)(hx:x.length≤140737488355328)(h:¬iu x):Spec Tryz.prog 203 [.bs z x] [] (ak (.aD [vC,.val (.int .i64 0)]) [] []):=
 uW (G5 z x hx) fun _ _ q=>q.1 h
theorem NP(z:Nat)(x:List UInt8)(hx:x.length≤140737488355328)(h:iu x):Spec Tryz.prog 203 [.bs z x] [] (ak (Cc x) [] [(54,⟨3,.bytes (dQ x)⟩),(60,⟨3,.bytes (eB x)⟩)]):=
 uW (G5 z x hx) fun _ _ q=>q.2 h
end Go.Proofs.YtpbpiehcchannaaGreatDoor
