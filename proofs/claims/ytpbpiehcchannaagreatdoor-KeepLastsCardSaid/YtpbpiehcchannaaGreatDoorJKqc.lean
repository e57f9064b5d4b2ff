/- Walks of lintelref01: Cut, Turned, GetBig, Get. Walks of lintelref21: Laid. Conditions: the premises of each law. -/
import Derived.Test.YtpbpiehcchannaaGreatDoorJKqb
import Derived.Test.YtpbpiehcchannaaGreatDoorJKqi
namespace Go.Proofs.YtpbpiehcchannaaGreatDoor
set_option linter.unusedVariables false
set_option linter.unusedSimpArgs false
set_option maxRecDepth 100000
set_option maxHeartbeats 1500000
open Go.RowKit
theorem RE (z : Nat) (l : List UInt8) (hl : l.length ≤ 140737488355328) (h4 : 4 ≤ l.length) : Spec Tryz.prog 180 [.bs z l, .val (.int .i64 0), .val (.int .i64 4)] []
   (ak (.aD [.own 30 3 1 0 4,.val (.bool true)]) [] [(30,⟨3,.bytes (l.take 4)⟩)]):=by
 have ht:(l.take 4).length=4:=by rw[List.length_take];omega
 refine ax ai Tryz.func180 rfl Tryz.ntmps180 Tryz.results180 ?_
 refine gg ?_
 rw[decide_eq_false (by omega:¬(l.length:Int)<0),decide_eq_false (by omega:¬(l.length:Int) - 0<4)]
 refine gg ?_
 rw[show List.drop (Int.toNat 0) (List.take (Int.toNat (0+4)) l)=l.take 4 from rfl]
 refine af (Js z (l.take 4) (by rw[ht];decide)) Tryz.call212 0 [0,0,0,0,0,0,30] [0,0,0,0,0,0,1] [6] ?_
 rw[ht]
 refine gg ?_
 exact⟨_,rfl,rfl,rfl,trivial⟩
theorem Jx (z : Nat) (l : List UInt8) (hl : l.length ≤ 140737488355328) (h4 : 4 ≤ l.length) : Spec Tryz.prog 180 [.bs z l, .val (.int .i64 0), .val (.int .i64 4)] []
   (ak (.aD [.bs 0 (l.take 4),.val (.bool true)]) [] []):=
 ix (RE z l hl h4) (by simp[eM]) (AF.aD (aZ.cons (AF.own rfl (by rw[List.length_take];omega)) (aZ.cons AF.same aZ.nil))) trivial
def lV(n:Int):Nat→Int
 | 0=>n - 1
 | j+1=>lV n j - 1
theorem Jy(n:Int):∀j:Nat,lV n j=n - 1 - j
 | 0=>by simp[lV]
 | j+1=>by rw[lV,Jy n j];omega
theorem RF (z : Nat) (l : List UInt8) (hl : l.length ≤ 140737488355328) : Spec Tryz.prog 183 [.bs z l] []
   (ak (.own 18 (l.length+1) 1 0 l.length) [] [(18,⟨l.length+1,.bytes l.reverse⟩)]):=by
 refine ax ai Tryz.func183 rfl Tryz.ntmps183 Tryz.results183 ?_
 refine gg ?_
 (refine aH ?_)
 conv=>whnf
 refine qK (lH 18 1 (.bytes []) rfl (by decide) rfl (t':=[.bs z l,.any,.any,.own 18 1 1 0 0,.val (.int .i64 ((l.length:Int) - 1)),.any,.any,.any,.any,.any,.any,.any,.any,.any,.any,.any,.any,.any,.any,.any]) ?_) ?_
 ·simp[jz,bc,aJ,aM,bu,dO,bF,bb,eF,dg,cL]
 dsimp only[aJ]
 refine cE (fun i:Nat=>i≤l.length) (fun i=>l.length - i) 0 [3,4,8,9,10,11,12,13,14,15,16,17,18] (fun i=>[(3,.own 18 (i+1) 1 0 i),(4,.val (.int .i64 (lV l.length i)))])
  (fun i=>[(18,⟨i+1,.bytes (l.reverse.take i)⟩)]) 0 (Nat.zero_le _) ?_ ?_ ?_
 ·exact no_implicit_lambda%ten
 ·exact no_implicit_lambda%b6
 ·rintro i v i1
  have hd:=Jy l.length i
  have ah:(l.reverse.take i).length=i:=by rw[List.length_take,List.length_reverse];omega
  refine cF ?_
  refine gg ?_
  refine⟨fun h=> ?_,fun h=> ?_⟩
  ·have hi:i<l.length:=by have:=of_decide_eq_true h;omega
   have RG:l.reverse.take (i+1)=l.reverse.take i++[l.getD (lV l.length i).toNat 0]:=by
    rw[List.take_succ_eq_append_getElem (by rw[List.length_reverse];exact hi),List.getElem_reverse,List.getD_eq_getElem?_getD,List.getElem?_eq_getElem (by omega)]
    have e:(lV l.length i).toNat=l.length - 1 - i:=by omega
    simp[e]
   have tB:List.take 1 (List.drop 0 (List.map (fun n:Int=>UInt8.ofNat n.toNat) [(((l.getD (lV l.length i).toNat 0).toNat:Nat):Int)]))=[l.getD (lV l.length i).toNat 0]:=by simp
   have ek:(((l.getD (lV l.length i).toNat 0).toNat:Nat):Int)≤255:=by have:=(l.getD (lV l.length i).toNat 0).toNat_lt;omega
   refine aE ?_
   conv=>whnf
   refine⟨[l.getD (lV l.length i).toNat 0],?_⟩
   conv=>whnf
   refine And.intro ⟨rfl,⟨rfl,rfl,Nat.le_refl _⟩,rfl,rfl,rfl,ah.symm,rfl,(by rw[tB]),(by rw[ah];show(i+1)*1≤_;omega),by decide⟩ ?_
   rw[←RG,ah]
   refine gg ?_
   exact bk (i+1) hi (by show l.length - (i+1)<l.length - i;omega)
  ·have hi:i=l.length:=by have:=of_decide_eq_false h;omega
   subst hi
   rw[List.take_of_length_le (by rw[List.length_reverse];omega)]
   refine gg ?_
   exact⟨_,rfl,rfl,rfl,trivial⟩
theorem RH(z:Nat)(l:List UInt8)(hl:l.length≤140737488355328):Spec Tryz.prog 183 [.bs z l] [] (ak (.bs 0 l.reverse) [] []):=
 ix (RF z l hl) (by simp[eM]) (AF.own rfl (List.length_reverse ..).symm) trivial
def jN(l:List UInt8):Nat→Int
 | 0=>0
 | i+1=>jN l i*256+(((l.getD i 0).toNat:Nat):Int)
theorem Jz(l:List UInt8):∀i:Nat,i≤4→0≤jN l i∧jN l i<4294967296:=by
 have h:∀i,(((l.getD i 0).toNat:Nat):Int)<256:=fun i=>by have:=(l.getD i 0).toNat_lt;omega
 intro i hi
 have h0:=h 0
 have h1:=h 1
 have h2:=h 2
 have h3:=h 3
 match i,hi with
 | 0,_=>simp[jN]
 | 1,_=>simp only[jN];omega
 | 2,_=>simp only[jN];omega
 | 3,_=>simp only[jN];omega
 | 4,_=>simp only[jN];omega
theorem RI (z : Nat) (l : List UInt8) (h4 : l.length = 4) : Spec Tryz.prog 182 [.bs z l, .val (.int .i64 0), .val (.int .i64 4)] []
   (ak (.aD [.val (.int .u64 (jN l 4)),.val (.int .i64 0)]) [] []):=by
 have hC:=Jx z l (by omega) (by omega)
 rw[List.take_of_length_le (by omega)] at hC
 refine ax ai Tryz.func182 rfl Tryz.ntmps182 Tryz.results182 ?_
 refine gg ?_
 refine af (hC) Tryz.call180 0 [] [] [] ?_
 refine gg ?_
 refine af (DC 4) Tryz.call181 0 [] [] [] ?_
 refine gg ?_
 (refine aH ?_)
 conv=>whnf
 refine cE (fun i:Nat=>i≤4) (fun i=>4 - i) 0 [10,11,26,27,28,29,30,31,32,33,34,35,36,37,38] (fun i=>[(10,.val (.int .u64 (jN l i))),(11,.val (.int .i64 (i:Int)))]) (fun i=>[]) 0 (Nat.zero_le _) ?_ ?_ ?_
 ·exact no_implicit_lambda%ten
 ·exact no_implicit_lambda%b6
 ·rintro i v i1
  refine cF ?_
  have hb:=Jz l i i1
  have n5:jN l (i+1)=jN l i*256+(((l.getD i 0).toNat:Nat):Int):=rfl
  refine gg ?_
  refine⟨fun h=> ?_,fun h=> ?_⟩
  ·have hi:i<4:=by have:=of_decide_eq_true h;omega
   have kI:=Jz l (i+1) hi
   refine aE ?_
   rw[Int.toNat_natCast,show(jN l i*256%18446744073709551616+(((l.getD i 0).toNat:Nat):Int)%18446744073709551616)%18446744073709551616=jN l (i+1) by rw[n5] at kI⊢;omega]
   exact bk (i+1) hi (by show 4 - (i+1)<4 - i;omega)
  ·have hi:i=4:=by have:=of_decide_eq_false h;omega
   subst hi
   refine gg ?_
   exact⟨_,rfl,rfl,trivial⟩
theorem RJ (z : Nat) (l : List UInt8) (hl : l.length ≤ 140737488355328) (h4 : 4 ≤ l.length) (a : Int) (ha : 0 ≤ a ∧ a ≤ 4294967295) (RL : l.take 4 = bz 4 a) : Spec Tryz.prog 147 [.bs z l, .val (.int .i64 0), .val (.int .i64 4)] []
   (ak (.aD [.val (.int .u64 a),.val (.int .i64 0)]) [] []):=by
 have hC:=Jx z l hl h4
 rw[RL] at hC
 have RN:=ec 4 a
 have hT:=RH 0 (bz 4 a) (by omega)
 have hG:=RI 0 (bz 4 a).reverse (by rw[List.length_reverse,RN])
 have hv:jN (bz 4 a).reverse 4=a:=by
  have e:bz 4 a=[UInt8.ofNat (a%256).toNat,UInt8.ofNat (a/256%256).toNat,UInt8.ofNat (a/65536%256).toNat,UInt8.ofNat (a/16777216%256).toNat]:=by
   simp[bz,List.range_succ]
  rw[e]
  simp only[jN,List.reverse_cons,List.reverse_nil,List.nil_append,List.cons_append,List.getD_cons_zero,List.getD_cons_succ,UInt8.toNat_ofNat']
  omega
 rw[hv] at hG
 refine ax ai Tryz.func147 rfl Tryz.ntmps147 Tryz.results147 ?_
 refine gg ?_
 refine af (hC) Tryz.call180 0 [] [] [] ?_
 refine gg ?_
 refine af (DC 4) Tryz.call181 0 [] [] [] ?_
 refine gg ?_
 refine af (hT) Tryz.call183 0 [] [] [] ?_
 refine gg ?_
 refine af (hG) Tryz.call182 0 [] [] [] ?_
 refine gg ?_
 exact⟨_,rfl,rfl,trivial⟩
theorem JA(hg:Nat→Option J):∀l:List UInt8,jT hg (l.map fun b=> .val (bv b))
 | []=>trivial
 | b::l=>⟨rfl,JA hg l⟩
theorem RO(z:Nat)(v:aU)(hv:v.Ok)(hd:v.d.length≤1000000):Spec Tryz.prog 150 [.agg (aV (.bs z v.d) v)] [] (ak (.own 7 8 1 0 (bh v).length) [] [(7,⟨8,.bytes (bh v)⟩)]):=by
 have hT:=yI v.t
 have h4:=ec 4 v.at_
 have ho:=hv.ow
 have ha:=hv.at_
 refine ax ai Tryz.func150 rfl Tryz.ntmps150 Tryz.results150 ?_
 unfold aV
 refine gg ?_
 rw[show v.at_%18446744073709551616=v.at_ by omega]
 refine af (Jt v.at_ (by omega) 4 (by omega)) Tryz.call185 0 [0,0,0,0,0,0,0,0,0,7] [0,0,0,0,0,0,0,0,0,1] [9] ?_
 refine gg ?_
 refine af (RD v.t hv.t) Tryz.call186 (hon:=⟨⟨trivial,trivial,trivial,trivial,trivial,trivial,trivial⟩,trivial⟩) 0 [] [] [] ?_
 refine gg ?_
 conv=>whnf
 refine⟨v.t.bytes,?_⟩
 conv=>whnf
 refine And.intro ⟨rfl,trivial,rfl,rfl,rfl,h4.symm,rfl,rfl,(by show((bz 4 v.at_).length+v.t.bytes.length)*1≤_;rw[h4,hT];decide),by decide⟩ ?_
 refine gg ?_
 conv=>whnf
 refine⟨v.ow,?_⟩
 conv=>whnf
 refine And.intro ⟨rfl,⟨rfl,rfl,Nat.le_of_ble_eq_true rfl,JA _ [v.ow.getD 0 0,v.ow.getD 1 0,v.ow.getD 2 0,v.ow.getD 3 0,v.ow.getD 4 0,v.ow.getD 5 0,v.ow.getD 6 0,v.ow.getD 7 0,v.ow.getD 8 0,v.ow.getD 9 0,v.ow.getD 10 0,v.ow.getD 11 0,v.ow.getD 12 0,v.ow.getD 13 0,v.ow.getD 14 0,v.ow.getD 15 0,v.ow.getD 16 0,v.ow.getD 17 0,v.ow.getD 18 0,v.ow.getD 19 0,v.ow.getD 20 0,v.ow.getD 21 0,v.ow.getD 22 0,v.ow.getD 23 0,v.ow.getD 24 0,v.ow.getD 25 0,v.ow.getD 26 0,v.ow.getD 27 0,v.ow.getD 28 0,v.ow.getD 29 0,v.ow.getD 30 0,v.ow.getD 31 0]⟩,rfl,rfl,rfl,(by rw[List.length_append]),rfl,(I2 (fun b=>[AV.val (bv b)]) 32 v.ow ho).symm,(by show((bz 4 v.at_++v.t.bytes).length+v.ow.length)*1≤_;rw[List.length_append,h4,hT,ho];decide),by decide⟩ ?_
 refine gg ?_
 conv=>whnf
 refine⟨v.d,?_⟩
 conv=>whnf
 refine And.intro ⟨rfl,trivial,rfl,rfl,rfl,(by simp only[List.length_append]),rfl,rfl,(by show((bz 4 v.at_++v.t.bytes++v.ow).length+v.d.length)*1≤_;rw[List.length_append,List.length_append,h4,hT,ho];omega),by decide⟩ ?_
 refine gg ?_
 refine⟨_,?_,rfl,rfl,trivial⟩
 simp only[lA,bh,List.length_append]
 rfl
theorem JB(z:Nat)(v:aU)(hv:v.Ok)(hd:v.d.length≤1000000):Spec Tryz.prog 150 [.agg (aV (.bs z v.d) v)] [] (ak (.bs 0 (bh v)) [] []):=
 ix (RO z v hv hd) (by simp[eM]) (AF.own rfl rfl) trivial
end Go.Proofs.YtpbpiehcchannaaGreatDoor
