/- Walks of lintelref21: Mark, Next. Walks of lintelref21: All. Conditions: the premises of each law. -/
import Derived.Test.YtpbpiehcchannaaGreatDoorJKqd
namespace Go.Proofs.YtpbpiehcchannaaGreatDoor
set_option linter.unusedVariables false
set_option linter.unusedSimpArgs false
set_option maxRecDepth 100000
set_option maxHeartbeats 1500000
open Go.RowKit
theorem JH{R:List RK}{x:UInt8}(hx:gF R x)(hs:cP R)(hl:R.length≤4096)(room:Int)(vb vm:Nat):Spec Tryz.prog 104 [.ref 0 vb 1 0 0] [⟨vb,.obj [.ref 1 vm 3 0 0]⟩,⟨vm,.obj [.sl 0 1 (fun k:List UInt8=>[AV.bs 0 k]) [] (av R),.sl 0 1 (fun k:List UInt8=>[AV.bs 0 k]) [] (aL R),.val (.int .i64 room)]⟩] (ak (.aD [.val (bv x),.val (.int .i64 0)]) [⟨vb,.obj [.ref 1 vm 3 0 0]⟩,⟨vm,.obj [.sl 0 1 (fun k:List UInt8=>[AV.bs 0 k]) [] (av R),.sl 0 1 (fun k:List UInt8=>[AV.bs 0 k]) [] (aL R),.val (.int .i64 room)]⟩] []):=by
 have hA:=CZ R hl 0 bQ room vm
 cases hx with
 | no h=>
  rw[JE h] at hA
  refine ax ai Tryz.func104 rfl Tryz.ntmps104 Tryz.results104 ?_
  refine gg ?_
  conv=>whnf
  refine yp 11 (er:=⟨1,.bytes bQ⟩) rfl (args':=[.ref 1 vm 3 0 0,.bs 0 bQ]) (aZ.cons AF.same (aZ.cons (AF.own (l:=bQ) rfl rfl) aZ.nil)) ?_
  refine af (hA) Tryz.call29 1 [1] [0] [] ?_
  refine gg ?_
  exact⟨_,rfl,rfl,trivial⟩
 | yes _ h=>
  obtain⟨j,j1,j2,j3,_⟩:=JD hs h
  rw[show kE (av R) bQ=(j:Int) from j2] at hA
  have j3:(aL R).getD j []=[x]:=j3
  have dS:=sY R
  refine ax ai Tryz.func104 rfl Tryz.ntmps104 Tryz.results104 ?_
  refine gg ?_
  conv=>whnf
  refine yp 11 (er:=⟨1,.bytes bQ⟩) rfl (args':=[.ref 1 vm 3 0 0,.bs 0 bQ]) (aZ.cons AF.same (aZ.cons (AF.own (l:=bQ) rfl rfl) aZ.nil)) ?_
  refine af (hA) Tryz.call29 1 [1] [0] [] ?_
  refine gg ?_
  rw[show(aL R).getD (Int.toNat (j:Int)) []=[x] by rw[Int.toNat_natCast];exact j3]
  refine gg ?_
  (try rw[show(aL R).getD (Int.toNat (j:Int)) []=[x] by rw[Int.toNat_natCast];exact j3])
  refine gg ?_
  exact⟨_,rfl,rfl,trivial⟩
theorem JI(a b:List UInt8):(!(Op.bytesLess a b||decide (a=b)))=aS b a:=by
 show(!(aS a b||decide (a=b)))=aS b a
 cases h:aS a b with
 | true=>rw[s7 h];rfl
 | false=>
  by_cases e:a=b
  ·subst e;rw[lR,decide_eq_true rfl];rfl
  ·rw[decide_eq_false e]
   cases q:aS b a with
   | true=>rfl
   | false=>exact absurd (oy a b h q) e
theorem R5(R:List RK)(bH:∀k∈av R,k.length≤140737488355328)(hl:R.length≤4096)(room:Int)(g:List UInt8)(vb vm:Nat):Spec Tryz.prog 103 [.ref 0 vb 1 0 0,.val (.string ByteArray.empty),.agg (bC 16 g)] [⟨vb,.obj [.ref 1 vm 3 0 0]⟩,⟨vm,.obj [.sl 0 1 (fun k:List UInt8=>[AV.bs 0 k]) [] (av R),.sl 0 1 (fun k:List UInt8=>[AV.bs 0 k]) [] (aL R),.val (.int .i64 room)]⟩] (ak (eJ (av R) []) [⟨vb,.obj [.ref 1 vm 3 0 0]⟩,⟨vm,.obj [.sl 0 1 (fun k:List UInt8=>[AV.bs 0 k]) [] (av R),.sl 0 1 (fun k:List UInt8=>[AV.bs 0 k]) [] (aL R),.val (.int .i64 room)]⟩] []):=by
 have ew:=gB R
 have w8:∀l:List UInt8,(strOf l).data.toList=l:=fun l=>by rw[qV]
 refine ax ai Tryz.func103 rfl Tryz.ntmps103 Tryz.results103 ?_
 refine gg ?_
 (
 (refine aH ?_)
 conv=>whnf
 refine cE (fun j:Nat=>j≤(av R).length∧eR (av R) []=eR ((av R).drop j) []) (fun j=>(av R).length - j) 2 [6,8,13,14,15,16,30,31,32,33,34,35,36,37,38,39,40,41,42,43,44,45,46,47,48,49,50,51,52,53,54,55,56,57,58,59,60,61,62,63,64,65,66,67,68,69,70,71,72,73,74] (fun j=>[(13,.val (.int .i64 (j:Int)))]) (fun j=>[]) 0 ⟨Nat.zero_le _,rfl⟩ ?_ ?_ ?_
 ·exact no_implicit_lambda%ten
 ·exact no_implicit_lambda%b6
 ·rintro j w ⟨j1,j2⟩
  refine cF ?_
  refine gg ?_
  refine⟨fun h=> ?_,fun h=> ?_⟩
  ·have ah:j< (av R).length:=by have:=of_decide_eq_true h;omega
   obtain⟨key,dz⟩:∃key,key=(av R)[j]:=⟨_,rfl⟩
   have gV:(av R).getD (Int.toNat (j:Int)) []=key:=by rw[dz,Int.toNat_natCast,List.getD_eq_getElem?_getD,List.getElem?_eq_getElem ah];rfl
   have eT:key.length≤140737488355328:=by rw[dz];exact bH _ (List.getElem_mem ah)
   have cr:=yN (beh:=[]) ah
   have jo:=yO (beh:=[]) ah
   rw[←dz] at cr jo
   refine gg ?_
   rw[gV]
   cases hv:cC key with
   | false=>
    rw[hv,Bool.and_false] at cr
    by_cases iC:16≤key.length
    ·have hr:bM (strOf (key.drop 16))=false:=by unfold cC at hv;rw[decide_eq_true iC,Bool.true_and] at hv;exact hv
     refine af (Jv key eT 0 iC hr) Tryz.call151 (hX:=cH) 0 [] [] [] ?_
     refine gg ?_
     exact bk (j+1) ⟨ah,j2.trans (cr rfl)⟩ (by show(av R).length - (j+1)< (av R).length - j;omega)
    ·refine af (DE key eT 0 (by omega)) Tryz.call151 (hX:=cH) 0 [] [] [] ?_
     refine gg ?_
     exact bk (j+1) ⟨ah,j2.trans (cr rfl)⟩ (by show(av R).length - (j+1)< (av R).length - j;omega)
   | true=>
    obtain⟨iC,hr⟩:16≤key.length∧bM (strOf (key.drop 16))=true:=by
     unfold cC at hv
     rw[Bool.and_eq_true] at hv
     exact⟨of_decide_eq_true hv.1,hv.2⟩
    have hy:=DF (strOf (key.drop 16)) (by rw[sU,List.length_drop];omega) hr (key.take 16) (by rw[List.length_take];omega) 0
    rw[show key.take 16++(strOf (key.drop 16)).data.toList=key by rw[qV];simp] at hy
    rw[hv,Bool.and_true] at cr jo
    refine af (hy) Tryz.call151 (hX:=cH) 0 [] [] [] ?_
    refine aE ?_
    rw[gV]
    rw[show(true&& !(Op.bytesLess (strOf key).data.toList []||decide ((strOf key).data.toList=[])))=aS [] key from by rw[Bool.true_and];simp only[w8];exact JI key []]
    cases hq:aS [] key with
    | false=>
     rw[hq] at cr
     refine aE ?_
     exact bk (j+1) ⟨ah,j2.trans (cr rfl)⟩ (by show(av R).length - (j+1)< (av R).length - j;omega)
    | true=>
     rw[hq] at jo
     have hn:=j2.trans (jo rfl)
     refine aE ?_
     (refine aH ?_)
     refine bL (p:=2) ai hm [0,0,1,7,15] [⟨0,false,false,[]⟩,⟨1,true,false,[73,6,8]⟩,⟨2,false,false,[]⟩,⟨3,true,true,[8]⟩,⟨4,false,false,[]⟩] (by kernel_rfl) ?_
     refine aE ?_
     unfold eJ
     rw[hn]
     exact⟨_,rfl,rfl,trivial⟩
  ·have hj:j=(av R).length:=by have:=of_decide_eq_false h;omega
   subst hj
   rw[List.drop_length] at j2
   refine gg ?_
   (refine aH ?_)
   refine bL (p:=2) ai hm [0,0,3,7] [⟨0,true,false,[6,8]⟩,⟨1,false,false,[]⟩,⟨2,true,true,[8]⟩,⟨3,false,false,[]⟩] (by kernel_rfl) ?_
   refine gg ?_
   unfold eJ
   rw[j2]
   exact⟨_,rfl,rfl,trivial⟩)
theorem R6(R:List RK)(bH:∀k∈av R,k.length≤140737488355328)(hl:R.length≤4096)(room:Int)(nm:ByteArray)(j6:bM nm=true)(g:List UInt8)(hg:g.length=16)(vb vm:Nat):Spec Tryz.prog 103 [.ref 0 vb 1 0 0,.val (.string nm),.agg (bC 16 g)] [⟨vb,.obj [.ref 1 vm 3 0 0]⟩,⟨vm,.obj [.sl 0 1 (fun k:List UInt8=>[AV.bs 0 k]) [] (av R),.sl 0 1 (fun k:List UInt8=>[AV.bs 0 k]) [] (aL R),.val (.int .i64 room)]⟩] (ak (eJ (av R) (aO nm g)) [⟨vb,.obj [.ref 1 vm 3 0 0]⟩,⟨vm,.obj [.sl 0 1 (fun k:List UInt8=>[AV.bs 0 k]) [] (av R),.sl 0 1 (fun k:List UInt8=>[AV.bs 0 k]) [] (aL R),.val (.int .i64 room)]⟩] []):=by
 have ew:=gB R
 have w8:∀l:List UInt8,(strOf l).data.toList=l:=fun l=>by rw[qV]
 have hz:1≤nm.size∧nm.size≤64:=by
  have:=j6
  unfold bM at this
  simp only[Bool.and_eq_true,decide_eq_true_eq] at this
  exact this.2
 have aG:decide (nm.data.toList=[])=false:=decide_eq_false fun e=>by
  have:nm.size=0:=by have:=congrArg List.length e;simpa using this
  omega
 have gC:=wk nm (by omega) g hg j6
 refine ax ai Tryz.func103 rfl Tryz.ntmps103 Tryz.results103 ?_
 refine gg ?_
 rw[aG]
 refine gg ?_
 refine af (gC) Tryz.call146 (hon:=cH) 0 [] [] [] ?_
 refine gg ?_
 generalize aO nm g=beh
 (
 (refine aH ?_)
 conv=>whnf
 refine cE (fun j:Nat=>j≤(av R).length∧eR (av R) beh=eR ((av R).drop j) beh) (fun j=>(av R).length - j) 2 [6,8,13,14,15,16,30,31,32,33,34,35,36,37,38,39,40,41,42,43,44,45,46,47,48,49,50,51,52,53,54,55,56,57,58,59,60,61,62,63,64,65,66,67,68,69,70,71,72,73,74] (fun j=>[(13,.val (.int .i64 (j:Int)))]) (fun j=>[]) 0 ⟨Nat.zero_le _,rfl⟩ ?_ ?_ ?_
 ·exact no_implicit_lambda%ten
 ·exact no_implicit_lambda%b6
 ·rintro j w ⟨j1,j2⟩
  refine cF ?_
  refine gg ?_
  refine⟨fun h=> ?_,fun h=> ?_⟩
  ·have ah:j< (av R).length:=by have:=of_decide_eq_true h;omega
   obtain⟨key,dz⟩:∃key,key=(av R)[j]:=⟨_,rfl⟩
   have gV:(av R).getD (Int.toNat (j:Int)) []=key:=by rw[dz,Int.toNat_natCast,List.getD_eq_getElem?_getD,List.getElem?_eq_getElem ah];rfl
   have eT:key.length≤140737488355328:=by rw[dz];exact bH _ (List.getElem_mem ah)
   have cr:=yN (beh:=beh) ah
   have jo:=yO (beh:=beh) ah
   rw[←dz] at cr jo
   refine gg ?_
   rw[gV]
   cases hv:cC key with
   | false=>
    rw[hv,Bool.and_false] at cr
    by_cases iC:16≤key.length
    ·have hr:bM (strOf (key.drop 16))=false:=by unfold cC at hv;rw[decide_eq_true iC,Bool.true_and] at hv;exact hv
     refine af (Jv key eT 0 iC hr) Tryz.call151 (hX:=cH) 0 [] [] [] ?_
     refine gg ?_
     exact bk (j+1) ⟨ah,j2.trans (cr rfl)⟩ (by show(av R).length - (j+1)< (av R).length - j;omega)
    ·refine af (DE key eT 0 (by omega)) Tryz.call151 (hX:=cH) 0 [] [] [] ?_
     refine gg ?_
     exact bk (j+1) ⟨ah,j2.trans (cr rfl)⟩ (by show(av R).length - (j+1)< (av R).length - j;omega)
   | true=>
    obtain⟨iC,hr⟩:16≤key.length∧bM (strOf (key.drop 16))=true:=by
     unfold cC at hv
     rw[Bool.and_eq_true] at hv
     exact⟨of_decide_eq_true hv.1,hv.2⟩
    have hy:=DF (strOf (key.drop 16)) (by rw[sU,List.length_drop];omega) hr (key.take 16) (by rw[List.length_take];omega) 0
    rw[show key.take 16++(strOf (key.drop 16)).data.toList=key by rw[qV];simp] at hy
    rw[hv,Bool.and_true] at cr jo
    refine af (hy) Tryz.call151 (hX:=cH) 0 [] [] [] ?_
    refine aE ?_
    rw[gV]
    rw[show(true&& !(Op.bytesLess (strOf key).data.toList (strOf beh).data.toList||decide ((strOf key).data.toList=(strOf beh).data.toList)))=aS beh key from by rw[Bool.true_and];simp only[w8];exact JI key beh]
    cases hq:aS beh key with
    | false=>
     rw[hq] at cr
     refine aE ?_
     exact bk (j+1) ⟨ah,j2.trans (cr rfl)⟩ (by show(av R).length - (j+1)< (av R).length - j;omega)
    | true=>
     rw[hq] at jo
     have hn:=j2.trans (jo rfl)
     refine aE ?_
     (refine aH ?_)
     refine bL (p:=2) ai hm [0,0,1,7,15] [⟨0,false,false,[]⟩,⟨1,true,false,[73,6,8]⟩,⟨2,false,false,[]⟩,⟨3,true,true,[8]⟩,⟨4,false,false,[]⟩] (by kernel_rfl) ?_
     refine aE ?_
     unfold eJ
     rw[hn]
     exact⟨_,rfl,rfl,trivial⟩
  ·have hj:j=(av R).length:=by have:=of_decide_eq_false h;omega
   subst hj
   rw[List.drop_length] at j2
   refine gg ?_
   (refine aH ?_)
   refine bL (p:=2) ai hm [0,0,3,7] [⟨0,true,false,[6,8]⟩,⟨1,false,false,[]⟩,⟨2,true,true,[8]⟩,⟨3,false,false,[]⟩] (by kernel_rfl) ?_
   refine gg ?_
   unfold eJ
   rw[j2]
   exact⟨_,rfl,rfl,trivial⟩)
theorem R7(R:List RK)(room:Int)(nm:ByteArray)(hn:nm.size≤140737488355328)(j6:bM nm=false)(aG:decide (nm.data.toList=[])=false)(g:List UInt8)(vb vm:Nat):Spec Tryz.prog 103 [.ref 0 vb 1 0 0,.val (.string nm),.agg (bC 16 g)] [⟨vb,.obj [.ref 1 vm 3 0 0]⟩,⟨vm,.obj [.sl 0 1 (fun k:List UInt8=>[AV.bs 0 k]) [] (av R),.sl 0 1 (fun k:List UInt8=>[AV.bs 0 k]) [] (aL R),.val (.int .i64 room)]⟩] (ak (.aD [.val (.string ByteArray.empty),.agg (bC 16 []),.val (.int .i64 1)]) [⟨vb,.obj [.ref 1 vm 3 0 0]⟩,⟨vm,.obj [.sl 0 1 (fun k:List UInt8=>[AV.bs 0 k]) [] (av R),.sl 0 1 (fun k:List UInt8=>[AV.bs 0 k]) [] (aL R),.val (.int .i64 room)]⟩] []):=by
 refine ax ai Tryz.func103 rfl Tryz.ntmps103 Tryz.results103 ?_
 refine gg ?_
 rw[aG]
 refine gg ?_
 refine af (yS nm hn g j6) Tryz.call146 (hon:=cH) 0 [] [] [] ?_
 refine gg ?_
 (refine aH ?_)
 refine bL (p:=2) ai hm [0,0,3,7] [⟨0,true,false,[6,8]⟩,⟨1,false,false,[]⟩,⟨2,true,true,[8]⟩,⟨3,false,false,[]⟩] (by kernel_rfl) ?_
 refine gg ?_
 exact⟨_,rfl,rfl,trivial⟩
theorem R8 {R : List RK} {V : List aU} (hV : VR R V) (k9 : ∀ r ∈ R, eC r) (hs : cP R) (hl : R.length ≤ 4096) (room : Int) (vb vm : Nat) : Spec Tryz.prog 106 [.ref 0 vb 1 0 0] [⟨vb, .obj [.ref 1 vm 3 0 0]⟩, ⟨vm, .obj [.sl 0 1 (fun k : List UInt8 => [AV.bs 0 k]) [] (av R), .sl 0 1 (fun k : List UInt8 => [AV.bs 0 k]) [] (aL R), .val (.int .i64 room)]⟩]
   (ak (.own 53 (V.length+1) 57 0 V.length) [⟨vb,.obj [.ref 1 vm 3 0 0]⟩,⟨vm,.obj [.sl 0 1 (fun k:List UInt8=>[AV.bs 0 k]) [] (av R),.sl 0 1 (fun k:List UInt8=>[AV.bs 0 k]) [] (aL R),.val (.int .i64 room)]⟩] [(53,⟨V.length+1,.row 57 (fun v:aU=>aV (.bs 0 v.d) v) aK V⟩)]):=by
 have R9:=hV.len
 have bH:=gB R
 refine ax ai Tryz.func106 rfl Tryz.ntmps106 Tryz.results106 ?_
 refine gg ?_
 (refine aH ?_)
 conv=>whnf
 refine qK (lH 53 1 (.row 57 (fun v:aU=>aV (.bs 0 v.d) v) aK []) rfl (by decide) rfl (t':=[.ref 0 vb 1 0 0,.any,.any,.own 53 1 57 0 0,.val (.int .i64 0),.any,.any,.any,.any,.any,.any,.any,.any,.any,.any,.any,.any,.any,.any,.any,.any,.any,.any,.any,.any,.any,.any,.any,.any,.any,.any,.any,.any,.any,.any,.any,.any,.any,.any,.any,.any,.any,.any,.any,.any,.any,.any,.any,.any,.any,.any,.any,.any]) ?_) ?_
 ·simp[jz,bc,aJ,aM,bu,dO,bF,bb,eF,dg,cL]
 dsimp only[aJ]
 refine cE (fun y:Nat×Nat=>y.1≤R.length∧y.2≤V.length∧(R.drop y.1).filter (fun r=>cC r.key)=(V.drop y.2).map gE) (fun y=>R.length - y.1) 2 [3,4,5,6,7,8,9,10,11,12,13,14,15,16,17,18,19,20,21,22,23,24,25,26,27,28,29,30,31,32,33,34,35,36,37,38,39,40,41,42,43,44,45,46,47,48,49,50,51] (fun y=>[(3,.own 53 (y.2+1) 57 0 y.2),(4,.val (.int .i64 (y.1:Int)))])
  (fun y=>[(53,⟨y.2+1,.row 57 (fun v:aU=>aV (.bs 0 v.d) v) aK (V.take y.2)⟩)]) (0,0) ⟨Nat.zero_le _,Nat.zero_le _,hV.eq⟩ ?_ ?_ ?_
 ·exact no_implicit_lambda%ten
 ·exact no_implicit_lambda%b6
 ·rintro⟨i,c⟩ w ⟨i1,i2,i3⟩
  simp only at i1 i2 i3
  refine cF ?_
  refine gg ?_
  refine⟨fun h=> ?_,fun h=> ?_⟩
  ·have ah:i<R.length:=by have:=of_decide_eq_true h;omega
   obtain⟨r,hr⟩:∃r,r=R[i]:=⟨_,rfl⟩
   have iO:r∈R:=by rw[hr];exact List.getElem_mem ah
   have gV:(av R).getD (Int.toNat (i:Int)) []=r.key:=by unfold av;rw[Int.toNat_natCast,List.getD_eq_getElem?_getD,List.getElem?_map,List.getElem?_eq_getElem ah,hr];rfl
   rw[List.drop_eq_getElem_cons ah,←hr] at i3
   refine gg ?_
   rw[gV]
   rcases k9 r iO with⟨v,hv,rfl⟩ | ⟨x,rfl⟩
   ·rw[List.filter_cons_of_pos (by exact tn hv)] at i3
    have hc:c<V.length:=by
     rcases Nat.lt_or_ge c V.length with q | q
     ·exact q
     ·rw[List.drop_of_length_le q] at i3;cases i3
    rw[List.drop_eq_getElem_cons hc,List.map_cons] at i3
    injection i3 with i4 i5
    have hu:=hV.ok _ (List.getElem_mem hc)
    have JJ:=hV.mem (List.getElem_mem hc)
    have hT:V.take (c+1)=V.take c++[V[c]]:=List.take_succ_eq_append_getElem hc
    have wo:(V.take c).length=c:=by rw[List.length_take];omega
    have tq:(V.take (c+1)).length=c+1:=by rw[List.length_take];omega
    rw[i4]
    clear gV iO hr i4
    generalize V[c]=u at hu JJ hT
    rw[show(gE u).key=u.g++u.nm.data.toList from rfl]
    refine af (DF u.nm hu.ok.nm hu.r u.g hu.ok.g 0) Tryz.call151 (hX:=cH) 0 [] [] [] ?_
    refine gg ?_
    refine af (JF u hu R hs hl JJ room vb vm) Tryz.call100 (hon:=cH) 2 [0,1] [0,0] [] ?_
    refine aE ?_
    conv=>whnf
    refine⟨aU,(fun v:aU=>aV (.bs 0 v.d) v),aK,V.take (c+1),?_⟩
    conv=>whnf
    refine And.intro ⟨rfl,⟨rfl,rfl,Nat.le_refl _,fun q hq=>(by(have jf:q=0:=by simpa using hq);subst jf;((repeat' apply And.intro)<;>first | exact trivial | exact rfl))⟩,rfl,rfl,rfl,wo.symm,.inr rfl,(by rw[hT,List.map_append];rfl),(by rw[tq];show(c+1)*104≤_;omega),by decide⟩ ?_
    rw[tq]
    refine aE ?_
    exact bk (i+1,c+1) ⟨ah,hc,i5⟩ (by show R.length - (i+1)<R.length - i;omega)
   ·rw[List.filter_cons_of_neg (by simp[JK])] at i3
    refine af (DE bQ (by decide) 0 (by decide)) Tryz.call151 (hX:=cH) 0 [] [] [] ?_
    refine gg ?_
    exact bk (i+1,c) ⟨ah,i2,i3⟩ (by show R.length - (i+1)<R.length - i;omega)
  ·have hi:i=R.length:=by have:=of_decide_eq_false h;omega
   subst hi
   have hc:c=V.length:=by
    rw[List.drop_length] at i3
    have:=congrArg List.length i3
    simp only[List.filter_nil,List.length_nil,List.length_map,List.length_drop] at this
    omega
   subst hc
   rw[List.take_length]
   refine gg ?_
   exact⟨_,rfl,rfl,rfl,trivial⟩
theorem Sa {R : List RK} {V : List aU} (hV : VR R V) (k9 : ∀ r ∈ R, eC r) (hs : cP R) (hl : R.length ≤ 4096) (room : Int) (vb vm : Nat) : Spec Tryz.prog 106 [.ref 0 vb 1 0 0] [⟨vb, .obj [.ref 1 vm 3 0 0]⟩, ⟨vm, .obj [.sl 0 1 (fun k : List UInt8 => [AV.bs 0 k]) [] (av R), .sl 0 1 (fun k : List UInt8 => [AV.bs 0 k]) [] (aL R), .val (.int .i64 room)]⟩]
   (ak (.sl 0 57 (fun v:aU=>aV (.bs 0 v.d) v) aK V) [⟨vb,.obj [.ref 1 vm 3 0 0]⟩,⟨vm,.obj [.sl 0 1 (fun k:List UInt8=>[AV.bs 0 k]) [] (av R),.sl 0 1 (fun k:List UInt8=>[AV.bs 0 k]) [] (aL R),.val (.int .i64 room)]⟩] []):=
 ix (R8 hV k9 hs hl room vb vm) (by simp[eM]) (AF.yo rfl rfl rfl fun i x y hx hy=>by rw[hx] at hy;cases hy;exact aZ.refl _) ⟨rfl,BF.same,rfl,BF.same,trivial⟩
end Go.Proofs.YtpbpiehcchannaaGreatDoor
