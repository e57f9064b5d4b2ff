/- Walks of lintelref21: Mark, Next. Walks of lintelref21: All. Conditions: the premises of each law. -/
import Derived.Test.YtpbpiehcchannaaGreatDoorJKqd
namespace Go.Proofs.YtpbpiehcchannaaGreatDoor
open Go.RowKit
set_option linter.unusedVariables false
set_option linter.unusedSimpArgs false
set_option maxRecDepth 100000
set_option maxHeartbeats 1500000
theorem rmark21_vc{R:List RK}{x:UInt8}(hx:MarkIs R x)(hs:SortK R)(hl:R.length≤4096)(room:Int)(vb vm:Nat):Spec Tryz.prog 104 [.ref 0 vb 1 0 0] [⟨vb,.obj [.ref 1 vm 3 0 0]⟩,⟨vm,.obj [.sl 0 1 (fun k:List UInt8=>[AV.bs 0 k]) [] (ksR R),.sl 0 1 (fun k:List UInt8=>[AV.bs 0 k]) [] (vsR R),.val (.int .i64 room)]⟩] (pms (.tup [.val (bv x),.val (.int .i64 0)]) [⟨vb,.obj [.ref 1 vm 3 0 0]⟩,⟨vm,.obj [.sl 0 1 (fun k:List UInt8=>[AV.bs 0 k]) [] (ksR R),.sl 0 1 (fun k:List UInt8=>[AV.bs 0 k]) [] (vsR R),.val (.int .i64 room)]⟩] []):=by
 have hA:=mat_vc R hl 0 markK room vm
 cases hx with
 | no h=>
  rw[atV_out h] at hA
  refine spec_entry tbOk Tryz.func104 rfl Tryz.ntmps104 Tryz.results104 ?_
  refine gg (k:= ?_)
  conv=>whnf
  refine callK_frz 11 (er:=⟨1,.bytes markK⟩) rfl (args':=[.ref 1 vm 3 0 0,.bs 0 markK]) (AFL.cons AF.same (AFL.cons (AF.own (l:=markK) rfl rfl) AFL.nil)) ?_
  refine cmks (hA) Tryz.call29 1 [1] [0] [] ?_
  refine gg (k:= ?_)
  exact⟨_,rfl,rfl,trivial⟩
 | yes _ h=>
  obtain⟨j,j1,j2,j3,_⟩:=atV_in hs h
  rw[show atV (ksR R) markK=(j:Int) from j2] at hA
  have j3:(vsR R).getD j []=[x]:=j3
  have hvl:=vsR_len R
  refine spec_entry tbOk Tryz.func104 rfl Tryz.ntmps104 Tryz.results104 ?_
  refine gg (k:= ?_)
  conv=>whnf
  refine callK_frz 11 (er:=⟨1,.bytes markK⟩) rfl (args':=[.ref 1 vm 3 0 0,.bs 0 markK]) (AFL.cons AF.same (AFL.cons (AF.own (l:=markK) rfl rfl) AFL.nil)) ?_
  refine cmks (hA) Tryz.call29 1 [1] [0] [] ?_
  refine gg (k:= ?_)
  rw[show(vsR R).getD (Int.toNat (j:Int)) []=[x] by rw[Int.toNat_natCast];exact j3]
  refine gg (k:= ?_)
  (try rw[show(vsR R).getD (Int.toNat (j:Int)) []=[x] by rw[Int.toNat_natCast];exact j3])
  refine gg (k:= ?_)
  exact⟨_,rfl,rfl,trivial⟩
theorem gtr_lt(a b:List UInt8):(!(Op.bytesLess a b||decide (a=b)))=ltB b a:=by
 show(!(ltB a b||decide (a=b)))=ltB b a
 cases h:ltB a b with
 | true=>rw[ltB_asym h];rfl
 | false=>
  by_cases e:a=b
  ·subst e;rw[ltB_irr,decide_eq_true rfl];rfl
  ·rw[decide_eq_false e]
   cases q:ltB b a with
   | true=>rfl
   | false=>exact absurd (ltB_tri a b h q) e
theorem rnext21_any(R:List RK)(hkl:∀k∈ksR R,k.length≤140737488355328)(hl:R.length≤4096)(room:Int)(g:List UInt8)(vb vm:Nat):Spec Tryz.prog 103 [.ref 0 vb 1 0 0,.val (.string ByteArray.empty),.agg (bytesA 16 g)] [⟨vb,.obj [.ref 1 vm 3 0 0]⟩,⟨vm,.obj [.sl 0 1 (fun k:List UInt8=>[AV.bs 0 k]) [] (ksR R),.sl 0 1 (fun k:List UInt8=>[AV.bs 0 k]) [] (vsR R),.val (.int .i64 room)]⟩] (pms (nextA (ksR R) []) [⟨vb,.obj [.ref 1 vm 3 0 0]⟩,⟨vm,.obj [.sl 0 1 (fun k:List UInt8=>[AV.bs 0 k]) [] (ksR R),.sl 0 1 (fun k:List UInt8=>[AV.bs 0 k]) [] (vsR R),.val (.int .i64 room)]⟩] []):=by
 have hlk:=ksR_len R
 have hsd:∀l:List UInt8,(strOf l).data.toList=l:=fun l=>by rw[strOf_data]
 refine spec_entry tbOk Tryz.func103 rfl Tryz.ntmps103 Tryz.results103 ?_
 refine gg (k:= ?_)
 (
 (refine sts (k:= ?_))
 conv=>whnf
 refine loop_at (fun j:Nat=>j≤(ksR R).length∧nextK (ksR R) []=nextK ((ksR R).drop j) []) (fun j=>(ksR R).length - j) 2 [6,8,13,14,15,16,30,31,32,33,34,35,36,37,38,39,40,41,42,43,44,45,46,47,48,49,50,51,52,53,54,55,56,57,58,59,60,61,62,63,64,65,66,67,68,69,70,71,72,73,74] (fun j=>[(13,.val (.int .i64 (j:Int)))]) (fun j=>[]) 0 ⟨Nat.zero_le _,rfl⟩ ?_ ?_ ?_
 ·exact no_implicit_lambda%ten
 ·exact no_implicit_lambda%hen
 ·rintro j w ⟨j1,j2⟩
  refine glp (k:= ?_)
  refine gg (k:= ?_)
  refine⟨fun h=> ?_,fun h=> ?_⟩
  ·have hlt:j< (ksR R).length:=by have:=of_decide_eq_true h;omega
   obtain⟨key,hkey⟩:∃key,key=(ksR R)[j]:=⟨_,rfl⟩
   have hgd:(ksR R).getD (Int.toNat (j:Int)) []=key:=by rw[hkey,Int.toNat_natCast,List.getD_eq_getElem?_getD,List.getElem?_eq_getElem hlt];rfl
   have hkb:key.length≤140737488355328:=by rw[hkey];exact hkl _ (List.getElem_mem hlt)
   have hst:=nextK_step (beh:=[]) hlt
   have hht:=nextK_hit (beh:=[]) hlt
   rw[←hkey] at hst hht
   refine gg (k:= ?_)
   rw[hgd]
   cases hv:isVK key with
   | false=>
    rw[hv,Bool.and_false] at hst
    by_cases h16:16≤key.length
    ·have hr:rightN (strOf (key.drop 16))=false:=by unfold isVK at hv;rw[decide_eq_true h16,Bool.true_and] at hv;exact hv
     refine cmks (rsplit_bad key hkb 0 h16 hr) Tryz.call151 (hX:=rowu) 0 [] [] [] ?_
     refine gg (k:= ?_)
     refine back_at (j+1) ⟨hlt,j2.trans (hst rfl)⟩ (by show(ksR R).length - (j+1)< (ksR R).length - j;omega) ?_ ?_
     ·exact no_implicit_lambda%ten
     ·exact no_implicit_lambda%hen
    ·refine cmks (rsplit_no key hkb 0 (by omega)) Tryz.call151 (hX:=rowu) 0 [] [] [] ?_
     refine gg (k:= ?_)
     refine back_at (j+1) ⟨hlt,j2.trans (hst rfl)⟩ (by show(ksR R).length - (j+1)< (ksR R).length - j;omega) ?_ ?_
     ·exact no_implicit_lambda%ten
     ·exact no_implicit_lambda%hen
   | true=>
    obtain⟨h16,hr⟩:16≤key.length∧rightN (strOf (key.drop 16))=true:=by
     unfold isVK at hv
     rw[Bool.and_eq_true] at hv
     exact⟨of_decide_eq_true hv.1,hv.2⟩
    have hy:=rsplit_yes (strOf (key.drop 16)) (by rw[strOf_size,List.length_drop];omega) hr (key.take 16) (by rw[List.length_take];omega) 0
    rw[show key.take 16++(strOf (key.drop 16)).data.toList=key by rw[strOf_data];simp] at hy
    rw[hv,Bool.and_true] at hst hht
    refine cmks (hy) Tryz.call151 (hX:=rowu) 0 [] [] [] ?_
    refine ggO (k:= ?_)
    rw[hgd]
    rw[show(true&& !(Op.bytesLess (strOf key).data.toList []||decide ((strOf key).data.toList=[])))=ltB [] key from by rw[Bool.true_and];simp only[hsd];exact gtr_lt key []]
    cases hq:ltB [] key with
    | false=>
     rw[hq] at hst
     refine ggO (k:= ?_)
     refine back_at (j+1) ⟨hlt,j2.trans (hst rfl)⟩ (by show(ksR R).length - (j+1)< (ksR R).length - j;omega) ?_ ?_
     ·exact no_implicit_lambda%ten
     ·exact no_implicit_lambda%hen
    | true=>
     rw[hq] at hht
     have hn:=j2.trans (hht rfl)
     refine ggO (k:= ?_)
     (refine sts (k:= ?_))
     refine draw_of (p:=2) tbOk hm [0,0,1,7,15] [⟨0,false,false,[]⟩,⟨1,true,false,[73,6,8]⟩,⟨2,false,false,[]⟩,⟨3,true,true,[8]⟩,⟨4,false,false,[]⟩] (by kernel_rfl) ?_
     refine ggO (k:= ?_)
     unfold nextA
     rw[hn]
     exact⟨_,rfl,rfl,trivial⟩
  ·have hj:j=(ksR R).length:=by have:=of_decide_eq_false h;omega
   subst hj
   rw[List.drop_length] at j2
   refine gg (k:= ?_)
   (refine sts (k:= ?_))
   refine draw_of (p:=2) tbOk hm [0,0,3,7] [⟨0,true,false,[6,8]⟩,⟨1,false,false,[]⟩,⟨2,true,true,[8]⟩,⟨3,false,false,[]⟩] (by kernel_rfl) ?_
   refine gg (k:= ?_)
   unfold nextA
   rw[j2]
   exact⟨_,rfl,rfl,trivial⟩)
theorem rnext21_vc(R:List RK)(hkl:∀k∈ksR R,k.length≤140737488355328)(hl:R.length≤4096)(room:Int)(nm:ByteArray)(hr0:rightN nm=true)(g:List UInt8)(hg:g.length=16)(vb vm:Nat):Spec Tryz.prog 103 [.ref 0 vb 1 0 0,.val (.string nm),.agg (bytesA 16 g)] [⟨vb,.obj [.ref 1 vm 3 0 0]⟩,⟨vm,.obj [.sl 0 1 (fun k:List UInt8=>[AV.bs 0 k]) [] (ksR R),.sl 0 1 (fun k:List UInt8=>[AV.bs 0 k]) [] (vsR R),.val (.int .i64 room)]⟩] (pms (nextA (ksR R) (keyV nm g)) [⟨vb,.obj [.ref 1 vm 3 0 0]⟩,⟨vm,.obj [.sl 0 1 (fun k:List UInt8=>[AV.bs 0 k]) [] (ksR R),.sl 0 1 (fun k:List UInt8=>[AV.bs 0 k]) [] (vsR R),.val (.int .i64 room)]⟩] []):=by
 have hlk:=ksR_len R
 have hsd:∀l:List UInt8,(strOf l).data.toList=l:=fun l=>by rw[strOf_data]
 have hz:1≤nm.size∧nm.size≤64:=by
  have:=hr0
  unfold rightN at this
  simp only[Bool.and_eq_true,decide_eq_true_eq] at this
  exact this.2
 have hne:decide (nm.data.toList=[])=false:=decide_eq_false fun e=>by
  have:nm.size=0:=by have:=congrArg List.length e;simpa using this
  omega
 have hKy:=rkey_vc nm (by omega) g hg hr0
 refine spec_entry tbOk Tryz.func103 rfl Tryz.ntmps103 Tryz.results103 ?_
 refine gg (k:= ?_)
 rw[hne]
 refine gg (k:= ?_)
 refine cmks (hKy) Tryz.call146 (hon:=rowu) 0 [] [] [] ?_
 refine gg (k:= ?_)
 generalize keyV nm g=beh
 (
 (refine sts (k:= ?_))
 conv=>whnf
 refine loop_at (fun j:Nat=>j≤(ksR R).length∧nextK (ksR R) beh=nextK ((ksR R).drop j) beh) (fun j=>(ksR R).length - j) 2 [6,8,13,14,15,16,30,31,32,33,34,35,36,37,38,39,40,41,42,43,44,45,46,47,48,49,50,51,52,53,54,55,56,57,58,59,60,61,62,63,64,65,66,67,68,69,70,71,72,73,74] (fun j=>[(13,.val (.int .i64 (j:Int)))]) (fun j=>[]) 0 ⟨Nat.zero_le _,rfl⟩ ?_ ?_ ?_
 ·exact no_implicit_lambda%ten
 ·exact no_implicit_lambda%hen
 ·rintro j w ⟨j1,j2⟩
  refine glp (k:= ?_)
  refine gg (k:= ?_)
  refine⟨fun h=> ?_,fun h=> ?_⟩
  ·have hlt:j< (ksR R).length:=by have:=of_decide_eq_true h;omega
   obtain⟨key,hkey⟩:∃key,key=(ksR R)[j]:=⟨_,rfl⟩
   have hgd:(ksR R).getD (Int.toNat (j:Int)) []=key:=by rw[hkey,Int.toNat_natCast,List.getD_eq_getElem?_getD,List.getElem?_eq_getElem hlt];rfl
   have hkb:key.length≤140737488355328:=by rw[hkey];exact hkl _ (List.getElem_mem hlt)
   have hst:=nextK_step (beh:=beh) hlt
   have hht:=nextK_hit (beh:=beh) hlt
   rw[←hkey] at hst hht
   refine gg (k:= ?_)
   rw[hgd]
   cases hv:isVK key with
   | false=>
    rw[hv,Bool.and_false] at hst
    by_cases h16:16≤key.length
    ·have hr:rightN (strOf (key.drop 16))=false:=by unfold isVK at hv;rw[decide_eq_true h16,Bool.true_and] at hv;exact hv
     refine cmks (rsplit_bad key hkb 0 h16 hr) Tryz.call151 (hX:=rowu) 0 [] [] [] ?_
     refine gg (k:= ?_)
     refine back_at (j+1) ⟨hlt,j2.trans (hst rfl)⟩ (by show(ksR R).length - (j+1)< (ksR R).length - j;omega) ?_ ?_
     ·exact no_implicit_lambda%ten
     ·exact no_implicit_lambda%hen
    ·refine cmks (rsplit_no key hkb 0 (by omega)) Tryz.call151 (hX:=rowu) 0 [] [] [] ?_
     refine gg (k:= ?_)
     refine back_at (j+1) ⟨hlt,j2.trans (hst rfl)⟩ (by show(ksR R).length - (j+1)< (ksR R).length - j;omega) ?_ ?_
     ·exact no_implicit_lambda%ten
     ·exact no_implicit_lambda%hen
   | true=>
    obtain⟨h16,hr⟩:16≤key.length∧rightN (strOf (key.drop 16))=true:=by
     unfold isVK at hv
     rw[Bool.and_eq_true] at hv
     exact⟨of_decide_eq_true hv.1,hv.2⟩
    have hy:=rsplit_yes (strOf (key.drop 16)) (by rw[strOf_size,List.length_drop];omega) hr (key.take 16) (by rw[List.length_take];omega) 0
    rw[show key.take 16++(strOf (key.drop 16)).data.toList=key by rw[strOf_data];simp] at hy
    rw[hv,Bool.and_true] at hst hht
    refine cmks (hy) Tryz.call151 (hX:=rowu) 0 [] [] [] ?_
    refine ggO (k:= ?_)
    rw[hgd]
    rw[show(true&& !(Op.bytesLess (strOf key).data.toList (strOf beh).data.toList||decide ((strOf key).data.toList=(strOf beh).data.toList)))=ltB beh key from by rw[Bool.true_and];simp only[hsd];exact gtr_lt key beh]
    cases hq:ltB beh key with
    | false=>
     rw[hq] at hst
     refine ggO (k:= ?_)
     refine back_at (j+1) ⟨hlt,j2.trans (hst rfl)⟩ (by show(ksR R).length - (j+1)< (ksR R).length - j;omega) ?_ ?_
     ·exact no_implicit_lambda%ten
     ·exact no_implicit_lambda%hen
    | true=>
     rw[hq] at hht
     have hn:=j2.trans (hht rfl)
     refine ggO (k:= ?_)
     (refine sts (k:= ?_))
     refine draw_of (p:=2) tbOk hm [0,0,1,7,15] [⟨0,false,false,[]⟩,⟨1,true,false,[73,6,8]⟩,⟨2,false,false,[]⟩,⟨3,true,true,[8]⟩,⟨4,false,false,[]⟩] (by kernel_rfl) ?_
     refine ggO (k:= ?_)
     unfold nextA
     rw[hn]
     exact⟨_,rfl,rfl,trivial⟩
  ·have hj:j=(ksR R).length:=by have:=of_decide_eq_false h;omega
   subst hj
   rw[List.drop_length] at j2
   refine gg (k:= ?_)
   (refine sts (k:= ?_))
   refine draw_of (p:=2) tbOk hm [0,0,3,7] [⟨0,true,false,[6,8]⟩,⟨1,false,false,[]⟩,⟨2,true,true,[8]⟩,⟨3,false,false,[]⟩] (by kernel_rfl) ?_
   refine gg (k:= ?_)
   unfold nextA
   rw[j2]
   exact⟨_,rfl,rfl,trivial⟩)
theorem rnext21_bad(R:List RK)(room:Int)(nm:ByteArray)(hn:nm.size≤140737488355328)(hr0:rightN nm=false)(hne:decide (nm.data.toList=[])=false)(g:List UInt8)(vb vm:Nat):Spec Tryz.prog 103 [.ref 0 vb 1 0 0,.val (.string nm),.agg (bytesA 16 g)] [⟨vb,.obj [.ref 1 vm 3 0 0]⟩,⟨vm,.obj [.sl 0 1 (fun k:List UInt8=>[AV.bs 0 k]) [] (ksR R),.sl 0 1 (fun k:List UInt8=>[AV.bs 0 k]) [] (vsR R),.val (.int .i64 room)]⟩] (pms (.tup [.val (.string ByteArray.empty),.agg (bytesA 16 []),.val (.int .i64 1)]) [⟨vb,.obj [.ref 1 vm 3 0 0]⟩,⟨vm,.obj [.sl 0 1 (fun k:List UInt8=>[AV.bs 0 k]) [] (ksR R),.sl 0 1 (fun k:List UInt8=>[AV.bs 0 k]) [] (vsR R),.val (.int .i64 room)]⟩] []):=by
 refine spec_entry tbOk Tryz.func103 rfl Tryz.ntmps103 Tryz.results103 ?_
 refine gg (k:= ?_)
 rw[hne]
 refine gg (k:= ?_)
 refine cmks (rkey_no nm hn g hr0) Tryz.call146 (hon:=rowu) 0 [] [] [] ?_
 refine gg (k:= ?_)
 (refine sts (k:= ?_))
 refine draw_of (p:=2) tbOk hm [0,0,3,7] [⟨0,true,false,[6,8]⟩,⟨1,false,false,[]⟩,⟨2,true,true,[8]⟩,⟨3,false,false,[]⟩] (by kernel_rfl) ?_
 refine gg (k:= ?_)
 exact⟨_,rfl,rfl,trivial⟩
end Go.Proofs.YtpbpiehcchannaaGreatDoor
namespace Go.Proofs.YtpbpiehcchannaaGreatDoor
open Go.RowKit
set_option linter.unusedVariables false
set_option linter.unusedSimpArgs false
set_option maxRecDepth 100000
set_option maxHeartbeats 1500000
theorem rall21_raw {R : List RK} {V : List VarV} (hV : VR R V) (hrc : ∀ r ∈ R, RecB r) (hs : SortK R) (hl : R.length ≤ 4096) (room : Int) (vb vm : Nat) : Spec Tryz.prog 106 [.ref 0 vb 1 0 0] [⟨vb, .obj [.ref 1 vm 3 0 0]⟩, ⟨vm, .obj [.sl 0 1 (fun k : List UInt8 => [AV.bs 0 k]) [] (ksR R), .sl 0 1 (fun k : List UInt8 => [AV.bs 0 k]) [] (vsR R), .val (.int .i64 room)]⟩]
   (pms (.own 53 (V.length+1) 57 0 V.length) [⟨vb,.obj [.ref 1 vm 3 0 0]⟩,⟨vm,.obj [.sl 0 1 (fun k:List UInt8=>[AV.bs 0 k]) [] (ksR R),.sl 0 1 (fun k:List UInt8=>[AV.bs 0 k]) [] (vsR R),.val (.int .i64 room)]⟩] [(53,⟨V.length+1,.row 57 (fun v:VarV=>varA (.bs 0 v.d) v) varZ V⟩)]):=by
 have hVl:=hV.len
 have hkl:=ksR_len R
 refine spec_entry tbOk Tryz.func106 rfl Tryz.ntmps106 Tryz.results106 ?_
 refine gg (k:= ?_)
 (refine sts (k:= ?_))
 conv=>whnf
 refine loop_le (leS_nil 53 1 (.row 57 (fun v:VarV=>varA (.bs 0 v.d) v) varZ []) rfl (by decide) rfl (t':=[.ref 0 vb 1 0 0,.any,.any,.own 53 1 57 0 0,.val (.int .i64 0),.any,.any,.any,.any,.any,.any,.any,.any,.any,.any,.any,.any,.any,.any,.any,.any,.any,.any,.any,.any,.any,.any,.any,.any,.any,.any,.any,.any,.any,.any,.any,.any,.any,.any,.any,.any,.any,.any,.any,.any,.any,.any,.any,.any,.any,.any,.any,.any]) ?_) ?_
 ·simp[leTn,setD,setL,updH,evA,unA,getA,getL,constA,undefs,deads]
 dsimp only[setL]
 refine loop_at (fun y:Nat×Nat=>y.1≤R.length∧y.2≤V.length∧(R.drop y.1).filter (fun r=>isVK r.key)=(V.drop y.2).map rcdV) (fun y=>R.length - y.1) 2 [3,4,5,6,7,8,9,10,11,12,13,14,15,16,17,18,19,20,21,22,23,24,25,26,27,28,29,30,31,32,33,34,35,36,37,38,39,40,41,42,43,44,45,46,47,48,49,50,51] (fun y=>[(3,.own 53 (y.2+1) 57 0 y.2),(4,.val (.int .i64 (y.1:Int)))])
  (fun y=>[(53,⟨y.2+1,.row 57 (fun v:VarV=>varA (.bs 0 v.d) v) varZ (V.take y.2)⟩)]) (0,0) ⟨Nat.zero_le _,Nat.zero_le _,hV.eq⟩ ?_ ?_ ?_
 ·exact no_implicit_lambda%ten
 ·exact no_implicit_lambda%hen
 ·rintro⟨i,c⟩ w ⟨i1,i2,i3⟩
  simp only at i1 i2 i3
  refine glp (k:= ?_)
  refine gg (k:= ?_)
  refine⟨fun h=> ?_,fun h=> ?_⟩
  ·have hlt:i<R.length:=by have:=of_decide_eq_true h;omega
   obtain⟨r,hr⟩:∃r,r=R[i]:=⟨_,rfl⟩
   have hrm:r∈R:=by rw[hr];exact List.getElem_mem hlt
   have hgd:(ksR R).getD (Int.toNat (i:Int)) []=r.key:=by unfold ksR;rw[Int.toNat_natCast,List.getD_eq_getElem?_getD,List.getElem?_map,List.getElem?_eq_getElem hlt,hr];rfl
   rw[List.drop_eq_getElem_cons hlt,←hr] at i3
   refine gg (k:= ?_)
   rw[hgd]
   rcases hrc r hrm with⟨v,hv,rfl⟩ | ⟨x,rfl⟩
   ·rw[List.filter_cons_of_pos (by exact kV_vk hv)] at i3
    have hc:c<V.length:=by
     rcases Nat.lt_or_ge c V.length with q | q
     ·exact q
     ·rw[List.drop_of_length_le q] at i3;cases i3
    rw[List.drop_eq_getElem_cons hc,List.map_cons] at i3
    injection i3 with i4 i5
    have hu:=hV.ok _ (List.getElem_mem hc)
    have hum:=hV.mem (List.getElem_mem hc)
    have hT:V.take (c+1)=V.take c++[V[c]]:=List.take_succ_eq_append_getElem hc
    have hTl:(V.take c).length=c:=by rw[List.length_take];omega
    have hTm:(V.take (c+1)).length=c+1:=by rw[List.length_take];omega
    rw[i4]
    clear hgd hrm hr i4
    generalize V[c]=u at hu hum hT
    rw[show(rcdV u).key=u.g++u.nm.data.toList from rfl]
    refine cmks (rsplit_yes u.nm hu.ok.nm hu.r u.g hu.ok.g 0) Tryz.call151 (hX:=rowu) 0 [] [] [] ?_
    refine gg (k:= ?_)
    refine cmks (rget21_z u hu R hs hl hum room vb vm) Tryz.call100 (hon:=rowu) 2 [0,1] [0,0] [] ?_
    refine ggO (k:= ?_)
    conv=>whnf
    refine⟨VarV,(fun v:VarV=>varA (.bs 0 v.d) v),varZ,V.take (c+1),?_⟩
    conv=>whnf
    refine And.intro ⟨rfl,⟨rfl,rfl,Nat.le_refl _,fun q hq=>(by(have hq0:q=0:=by simpa using hq);subst hq0;((repeat' apply And.intro)<;>first | exact trivial | exact rfl))⟩,rfl,rfl,rfl,hTl.symm,.inr rfl,(by rw[hT,List.map_append];rfl),(by rw[hTm];show(c+1)*104≤_;omega),by decide⟩ ?_
    rw[hTm]
    refine ggO (k:= ?_)
    refine back_at (i+1,c+1) ⟨hlt,hc,i5⟩ (by show R.length - (i+1)<R.length - i;omega) ?_ ?_
    ·exact no_implicit_lambda%ten
    ·exact no_implicit_lambda%hen
   ·rw[List.filter_cons_of_neg (by simp[mark_vk])] at i3
    refine cmks (rsplit_no markK (by decide) 0 (by decide)) Tryz.call151 (hX:=rowu) 0 [] [] [] ?_
    refine gg (k:= ?_)
    refine back_at (i+1,c) ⟨hlt,i2,i3⟩ (by show R.length - (i+1)<R.length - i;omega) ?_ ?_
    ·exact no_implicit_lambda%ten
    ·exact no_implicit_lambda%hen
  ·have hi:i=R.length:=by have:=of_decide_eq_false h;omega
   subst hi
   have hc:c=V.length:=by
    rw[List.drop_length] at i3
    have:=congrArg List.length i3
    simp only[List.filter_nil,List.length_nil,List.length_map,List.length_drop] at this
    omega
   subst hc
   rw[List.take_length]
   refine gg (k:= ?_)
   exact⟨_,rfl,rfl,rfl,trivial⟩
theorem rall21_vc {R : List RK} {V : List VarV} (hV : VR R V) (hrc : ∀ r ∈ R, RecB r) (hs : SortK R) (hl : R.length ≤ 4096) (room : Int) (vb vm : Nat) : Spec Tryz.prog 106 [.ref 0 vb 1 0 0] [⟨vb, .obj [.ref 1 vm 3 0 0]⟩, ⟨vm, .obj [.sl 0 1 (fun k : List UInt8 => [AV.bs 0 k]) [] (ksR R), .sl 0 1 (fun k : List UInt8 => [AV.bs 0 k]) [] (vsR R), .val (.int .i64 room)]⟩]
   (pms (.sl 0 57 (fun v:VarV=>varA (.bs 0 v.d) v) varZ V) [⟨vb,.obj [.ref 1 vm 3 0 0]⟩,⟨vm,.obj [.sl 0 1 (fun k:List UInt8=>[AV.bs 0 k]) [] (ksR R),.sl 0 1 (fun k:List UInt8=>[AV.bs 0 k]) [] (vsR R),.val (.int .i64 room)]⟩] []):=
 spec_frz (rall21_raw hV hrc hs hl room vb vm) (by simp[geM]) (AF.own_sl rfl rfl rfl fun i x y hx hy=>by rw[hx] at hy;cases hy;exact AFL.refl _) ⟨rfl,BF.same,rfl,BF.same,trivial⟩
end Go.Proofs.YtpbpiehcchannaaGreatDoor
