/- Walks of lintelref09: the map. The document's map as sorted records, and a store beside it: the plain law. Walks of lintelref09: the map, as sorted records. Conditions: the premises of each law. -/
import Derived.Test.YtpbpiehcchannaaGreatDoorJGf
import Derived.Test.YtpbpiehcchannaaGreatDoorJGa
import Derived.Test.YtpbpiehcchannaaGreatDoorJHa
import Derived.Test.YtpbpiehcchannaaGreatDoorJHp
import Derived.Test.YtpbpiehcchannaaGreatDoorJHv
namespace Go.Proofs.YtpbpiehcchannaaGreatDoor
open Go.RowKit
set_option linter.unusedVariables false
set_option linter.unusedSimpArgs false
set_option maxRecDepth 100000
set_option maxHeartbeats 1500000
def atI:List (List UInt8)→List UInt8→Nat
 | [],_=>0
 | k::r,key=>if k=key then 0 else 1+atI r key
theorem atI_le:∀(ks:List (List UInt8))(key:List UInt8),atI ks key≤ks.length
 | [],_=>Nat.le_refl _
 | k::r,key=>by
  unfold atI
  have:=atI_le r key
  rw[List.length_cons]
  split<;>omega
theorem atI_yes:∀(ks:List (List UInt8))(key:List UInt8)(i:Nat),i≤atI ks key→i<ks.length→ks.getD i []=key→atI ks key=i
 | [],_,i,_,h,_=>absurd h (Nat.not_lt_zero _)
 | k::r,key,0,h1,h2,h3=>by
  obtain rfl:k=key:=by simpa using h3
  simp[atI]
 | k::r,key,i+1,h1,h2,h3=>by
  unfold atI at h1⊢
  split at h1
  ·omega
  ·rename_i hk
   rw[if_neg hk,atI_yes r key i (by omega) (by simpa using h2) (by simpa using h3)]
   omega
theorem atI_no:∀(ks:List (List UInt8))(key:List UInt8)(i:Nat),i≤atI ks key→i<ks.length→ks.getD i []≠key→i+1≤atI ks key
 | [],_,i,_,h,_=>absurd h (Nat.not_lt_zero _)
 | k::r,key,0,h1,h2,h3=>by
  have hk:k≠key:=by simpa using h3
  unfold atI
  rw[if_neg hk];omega
 | k::r,key,i+1,h1,h2,h3=>by
  unfold atI at h1⊢
  split at h1
  ·omega
  ·rename_i hk
   rw[if_neg hk]
   have:=atI_no r key i (by omega) (by simpa using h2) (by simpa using h3)
   omega
def atV(ks:List (List UInt8))(key:List UInt8):Int:=if atI ks key<ks.length then(atI ks key:Int) else -1
theorem need8_vc(a b:Nat)(ha:a≤140737488355328)(hb:b≤140737488355328):Spec Tryz.prog 76 [.val (.int .i64 (a:Int)),.val (.int .i64 (b:Int))] [] (pms (.val (.int .i64 ((12+a+b:Nat):Int))) [] []):=by
 refine spec_entry tbOk Tryz.func76 rfl Tryz.ntmps76 Tryz.results76 ?_
 refine gg (k:= ?_)
 rw[show(12:Int)+(a:Int)+(b:Int)=((12+a+b:Nat):Int) by omega]
 exact⟨_,rfl,rfl,trivial⟩
theorem at9_vc(z:Nat)(ks vs:List (List UInt8))(key:List UInt8)(room:Int)(hl:ks.length≤4294967296)(vm:Nat):Spec Tryz.prog 29 [.ref 0 vm 3 0 0,.bs z key] [⟨vm,.obj [.sl 0 1 (fun k:List UInt8=>[AV.bs 0 k]) [] ks,.sl 0 1 (fun k:List UInt8=>[AV.bs 0 k]) [] vs,.val (.int .i64 room)]⟩] (pms (.val (.int .i64 (atV ks key))) [⟨vm,.obj [.sl 0 1 (fun k:List UInt8=>[AV.bs 0 k]) [] ks,.sl 0 1 (fun k:List UInt8=>[AV.bs 0 k]) [] vs,.val (.int .i64 room)]⟩] []):=by
 refine spec_entry tbOk Tryz.func29 rfl Tryz.ntmps29 Tryz.results29 ?_
 refine gg (k:= ?_)
 (refine sts (k:= ?_))
 conv=>whnf
 refine loop_at (fun i:Nat=>i≤atI ks key) (fun i=>ks.length - i) 1 [4,5,6,7,8,9,10,11,12,13,14,15,16,17,18,19,20,21,22,23,24,25,26] (fun i=>[(5,.val (.int .i64 (i:Int)))]) (fun i=>[]) 0 (Nat.zero_le _) ?_ ?_ ?_
 ·exact no_implicit_lambda%ten
 ·exact no_implicit_lambda%hen
 ·rintro i v i1
  have i2:=atI_le ks key
  refine glp (k:= ?_)
  refine gg (k:= ?_)
  refine⟨fun h=> ?_,fun h=> ?_⟩
  ·have hlt:i<ks.length:=by have:=of_decide_eq_true h;omega
   refine gg (k:= ?_)
   refine draw_of (p:=1) tbOk hm [0,1,3,7,0,31,63,127,0,256,1023] [⟨0,false,false,[]⟩,⟨1,true,false,[17,18,19,20,21,22,23,24,25]⟩,⟨2,true,false,[18,19,20,21,22,23,24,25]⟩,⟨3,true,false,[19,20,21,22,23,24,25]⟩,⟨4,false,false,[]⟩,⟨5,true,false,[21,22,23,24,25]⟩,⟨6,true,false,[22,23,24,25]⟩,⟨7,true,false,[23,24,25]⟩,⟨8,false,false,[]⟩,⟨9,true,false,[15,16,17,18,19,20,21,22,25]⟩,⟨10,false,false,[]⟩] (by kernel_rfl) ?_
   refine gg (k:= ?_)
   simp only[Int.toNat_natCast,Nat.zero_add]
   refine gg (k:= ?_)
   rw[strOf_eq]
   refine⟨fun h'=> ?_,fun h'=> ?_⟩
   ·have hk:=atI_yes ks key i i1 hlt (of_decide_eq_true h')
    have hv:atV ks key=(i:Int):=by unfold atV;rw[hk,if_pos hlt]
    refine gg (k:= ?_)
    rw[hv]
    exact⟨_,rfl,rfl,trivial⟩
   ·have hk:=atI_no ks key i i1 hlt (of_decide_eq_false h')
    refine gg (k:= ?_)
    refine back_at (i+1) hk (by show ks.length - (i+1)<ks.length - i;omega) ?_ ?_
    ·exact no_implicit_lambda%ten
    ·exact no_implicit_lambda%hen
  ·have hi:i=ks.length:=by have:=of_decide_eq_false h;omega
   have hv:atV ks key= -1:=by unfold atV;rw[if_neg (by omega)]
   refine gg (k:= ?_)
   rw[hv]
   exact⟨_,rfl,rfl,trivial⟩
def usedM:List (List UInt8)→List (List UInt8)→Nat→Nat
 | ks,vs,0=>0
 | ks,vs,n+1=>usedM ks vs n+(12+(ks.getD n []).length+(vs.getD n []).length)
theorem usedM_le{ks vs:List (List UInt8)}(hb:(∀k∈ks,k.length≤4294967296)∧(∀v∈vs,v.length≤4294967296))(hv:vs.length=ks.length):∀n,n≤ks.length→usedM ks vs n≤n*8589934604:=by
 intro n
 induction n with
 | zero=>intro _;simp[usedM]
 | succ n ih=>
  intro hn
  have h1:=ih (by omega)
  have h2:=hb.1 (ks.getD n []) (by rw[List.getD_eq_getElem?_getD,List.getElem?_eq_getElem (by omega)];exact List.getElem_mem _)
  have h3:=hb.2 (vs.getD n []) (by rw[List.getD_eq_getElem?_getD,List.getElem?_eq_getElem (by omega)];exact List.getElem_mem _)
  unfold usedM
  omega
theorem used9_vc(ks vs:List (List UInt8))(room:Int)(hl:ks.length≤4096)(hv:vs.length=ks.length)(hb:(∀k∈ks,k.length≤4294967296)∧(∀v∈vs,v.length≤4294967296))(vm:Nat):Spec Tryz.prog 75 [.ref 0 vm 3 0 0] [⟨vm,.obj [.sl 0 1 (fun k:List UInt8=>[AV.bs 0 k]) [] ks,.sl 0 1 (fun k:List UInt8=>[AV.bs 0 k]) [] vs,.val (.int .i64 room)]⟩] (pms (.val (.int .i64 (usedM ks vs ks.length:Int))) [⟨vm,.obj [.sl 0 1 (fun k:List UInt8=>[AV.bs 0 k]) [] ks,.sl 0 1 (fun k:List UInt8=>[AV.bs 0 k]) [] vs,.val (.int .i64 room)]⟩] []):=by
 have hu:=usedM_le hb hv
 refine spec_entry tbOk Tryz.func75 rfl Tryz.ntmps75 Tryz.results75 ?_
 refine gg (k:= ?_)
 (refine sts (k:= ?_))
 conv=>whnf
 refine loop_at (fun i:Nat=>i≤ks.length) (fun i=>ks.length - i) 1 [3,4,5,6,7,8,9,10,11,12,13,14,15,16,17,18,19,20,21,22,23,24,25,26,27,28,29,30,31,32] (fun i=>[(3,.val (.int .i64 (usedM ks vs i:Int))),(4,.val (.int .i64 (i:Int)))]) (fun i=>[]) 0 (Nat.zero_le _) ?_ ?_ ?_
 ·exact no_implicit_lambda%ten
 ·exact no_implicit_lambda%hen
 ·rintro i v i1
  have hui:=hu i i1
  refine glp (k:= ?_)
  refine gg (k:= ?_)
  refine⟨fun h=> ?_,fun h=> ?_⟩
  ·have hlt:i<ks.length:=by have:=of_decide_eq_true h;omega
   have h2:=hb.1 (ks.getD i []) (by rw[List.getD_eq_getElem?_getD,List.getElem?_eq_getElem (by omega)];exact List.getElem_mem _)
   have h3:=hb.2 (vs.getD i []) (by rw[List.getD_eq_getElem?_getD,List.getElem?_eq_getElem (by omega)];exact List.getElem_mem _)
   refine gg (k:= ?_)
   refine draw_of (p:=1) tbOk hm [0,0,2,6,14,0,62,126,254,0,512,1536,3584,0,15872,32256,65024,131070,262143,524287] [⟨0,false,false,[]⟩,⟨1,false,false,[]⟩,⟨2,true,false,[14,17,18,19,20,21,22,23,24,25,26,27,28,29,30,31,32,3]⟩,⟨3,true,false,[14,18,19,20,21,22,23,24,25,26,27,28,29,30,31,32,3]⟩,⟨4,true,false,[14,19,20,21,22,23,24,25,26,27,28,29,30,31,32,3]⟩,⟨5,false,false,[]⟩,⟨6,true,false,[14,21,22,23,24,25,26,27,28,29,30,31,32,3]⟩,⟨7,true,false,[14,22,23,24,25,26,27,28,29,30,31,32,3]⟩,⟨8,true,false,[14,23,24,25,26,27,28,29,30,31,32,3]⟩,⟨9,false,false,[]⟩,⟨10,true,false,[14,15,16,17,18,19,20,21,22,25,26,27,28,29,30,31,32,3]⟩,⟨11,true,false,[14,15,16,17,18,19,20,21,22,26,27,28,29,30,31,32,3]⟩,⟨12,true,false,[14,15,16,17,18,19,20,21,22,27,28,29,30,31,32,3]⟩,⟨13,false,false,[]⟩,⟨14,true,false,[14,15,16,17,18,19,20,21,22,29,30,31,32,3]⟩,⟨15,true,false,[14,15,16,17,18,19,20,21,22,30,31,32,3]⟩,⟨16,true,false,[14,15,16,17,18,19,20,21,22,31,32,3]⟩,⟨17,true,true,[14,32,3]⟩,⟨18,false,false,[]⟩,⟨19,false,false,[]⟩] (by kernel_rfl) ?_
   refine gg (k:= ?_)
   simp only[Int.toNat_natCast]
   refine cmks (need8_vc (ks.getD i []).length (vs.getD i []).length (by omega) (by omega)) Tryz.call76 0 [] [] [] ?_
   refine gg (k:= ?_)
   rw[show(usedM ks vs i:Int)+((12+(ks.getD i []).length+(vs.getD i []).length:Nat):Int)=(usedM ks vs (i+1):Int) by rw[usedM];omega]
   refine back_at (i+1) hlt (by show ks.length - (i+1)<ks.length - i;omega) ?_ ?_
   ·exact no_implicit_lambda%ten
   ·exact no_implicit_lambda%hen
  ·obtain rfl:i=ks.length:=by have:=of_decide_eq_false h;omega
   refine gg (k:= ?_)
   exact⟨_,rfl,rfl,trivial⟩
theorem kf_sl{fz:List (Nat×Ent)}{r ver n:Nat}{ks:List (List UInt8)}(he:getM fz r=some ⟨ver,.row 1 (fun k:List UInt8=>[AV.bs 0 k]) [] ks⟩)(hn:n=ks.length):AF fz (.own r ver 1 0 n) (.sl 0 1 (fun k:List UInt8=>[AV.bs 0 k]) [] ks):=
 AF.own_sl he hn hn.symm fun i x y hx hy=>by
  rw[hx] at hy
  obtain rfl:=Option.some.inj hy
  exact AFL.cons AF.same AFL.nil
theorem del9_no(z:Nat)(ks vs:List (List UInt8))(key:List UInt8)(room:Int)(hl:ks.length≤4096)(hk:¬atI ks key<ks.length)(vm:Nat):Spec Tryz.prog 24 [.ref 0 vm 3 0 0,.bs z key] [⟨vm,.obj [.sl 0 1 (fun k:List UInt8=>[AV.bs 0 k]) [] ks,.sl 0 1 (fun k:List UInt8=>[AV.bs 0 k]) [] vs,.val (.int .i64 room)]⟩] (pms (.val (.int .i64 3)) [⟨vm,.obj [.sl 0 1 (fun k:List UInt8=>[AV.bs 0 k]) [] ks,.sl 0 1 (fun k:List UInt8=>[AV.bs 0 k]) [] vs,.val (.int .i64 room)]⟩] []):=by
 have hat:=at9_vc z ks vs key room (by omega) vm
 unfold atV at hat
 rw[if_neg hk] at hat
 refine spec_entry tbOk Tryz.func24 rfl Tryz.ntmps24 Tryz.results24 ?_
 refine gg (k:= ?_)
 refine cmks (hat) Tryz.call29 1 [0] [0] [] ?_
 refine gg (k:= ?_)
 exact⟨_,rfl,rfl,trivial⟩
theorem del9_raw(z:Nat)(ks vs:List (List UInt8))(key:List UInt8)(room:Int)(hl:ks.length≤4096)(hv:vs.length=ks.length)(p:Nat)(hp:atI ks key=p)(hk:p<ks.length)(vm:Nat):Spec Tryz.prog 24 [.ref 0 vm 3 0 0,.bs z key] [⟨vm,.obj [.sl 0 1 (fun k:List UInt8=>[AV.bs 0 k]) [] ks,.sl 0 1 (fun k:List UInt8=>[AV.bs 0 k]) [] vs,.val (.int .i64 room)]⟩] (pms (.val (.int .i64 0)) [⟨vm,.obj [.own 14 3 1 0 (ks.take p++ks.drop (p+1)).length,.own 22 3 1 0 (vs.take p++vs.drop (p+1)).length,.val (.int .i64 room)]⟩] [(14,⟨3,.row 1 (fun k:List UInt8=>[AV.bs 0 k]) [] (ks.take p++ks.drop (p+1))⟩),(22,⟨3,.row 1 (fun k:List UInt8=>[AV.bs 0 k]) [] (vs.take p++vs.drop (p+1))⟩)]):=by
 have hat:=at9_vc z ks vs key room (by omega) vm
 unfold atV at hat
 rw[hp,if_pos hk] at hat
 have k1:(ks.take p).length=p:=by rw[List.length_take];omega
 have k2:(vs.take p).length=p:=by rw[List.length_take];omega
 have k3:(ks.drop (p+1)).length=ks.length - (p+1):=List.length_drop ..
 have k4:(vs.drop (p+1)).length=ks.length - (p+1):=by rw[List.length_drop,hv]
 refine spec_entry tbOk Tryz.func24 rfl Tryz.ntmps24 Tryz.results24 ?_
 refine gg (k:= ?_)
 refine cmks (hat) Tryz.call29 1 [0] [0] [] ?_
 refine gg (k:= ?_)
 (
 refine⟨List UInt8,(fun k:List UInt8=>[AV.bs 0 k]),[],(ks.take p),?_⟩
 conv=>whnf
 refine And.intro ⟨rfl,fun x hx=>⟨trivial,trivial⟩,rfl,rfl,rfl,rfl,.inr rfl,rfl,by show _*24≤_;(try simp only[List.length_append]);omega,by decide⟩ ?_)
 refine gg (k:= ?_)
 (
 refine⟨List UInt8,(fun k:List UInt8=>[AV.bs 0 k]),[],(vs.take p),?_⟩
 conv=>whnf
 refine And.intro ⟨rfl,fun x hx=>⟨trivial,trivial⟩,rfl,rfl,rfl,rfl,.inr rfl,rfl,by show _*24≤_;(try simp only[List.length_append]);omega,by decide⟩ ?_)
 refine gg (k:= ?_)
 (
 refine⟨List UInt8,(fun k:List UInt8=>[AV.bs 0 k]),[],(ks.take p++ks.drop (p+1)),?_⟩
 conv=>whnf
 refine And.intro ⟨rfl,fun x hx=>⟨trivial,trivial⟩,rfl,rfl,rfl,rfl,.inr rfl,(by rw[show((p:Int)+1).toNat=p+1 by omega,Int.toNat_natCast,List.take_length,List.map_append]),by show _*24≤_;(try simp only[List.length_append]);omega,by decide⟩ ?_)
 refine gg (k:= ?_)
 (
 refine⟨List UInt8,(fun k:List UInt8=>[AV.bs 0 k]),[],(vs.take p++vs.drop (p+1)),?_⟩
 conv=>whnf
 refine And.intro ⟨rfl,fun x hx=>⟨trivial,trivial⟩,rfl,rfl,rfl,rfl,.inr rfl,(by rw[show((p:Int)+1).toNat=p+1 by omega,Int.toNat_natCast,List.take_length,List.map_append]),by show _*24≤_;(try simp only[List.length_append]);omega,by decide⟩ ?_)
 refine gg (k:= ?_)
 exact⟨_,rfl,rfl,rfl,rfl,trivial⟩
def dropAt(l:List (List UInt8))(p:Nat):List (List UInt8):=l.take p++l.drop (p+1)
theorem dropAt_len{l:List (List UInt8)}{p:Nat}(h:p<l.length):(dropAt l p).length=l.length - 1:=by
 unfold dropAt
 rw[List.length_append,List.length_take,List.length_drop];omega
def delM(ks vs:List (List UInt8))(key:List UInt8):List (List UInt8)×List (List UInt8):=if atI ks key<ks.length then(dropAt ks (atI ks key),dropAt vs (atI ks key)) else(ks,vs)
theorem del9_vc(z:Nat)(ks vs:List (List UInt8))(key:List UInt8)(room:Int)(hl:ks.length≤4096)(hv:vs.length=ks.length)(vm:Nat):Spec Tryz.prog 24 [.ref 0 vm 3 0 0,.bs z key] [⟨vm,.obj [.sl 0 1 (fun k:List UInt8=>[AV.bs 0 k]) [] ks,.sl 0 1 (fun k:List UInt8=>[AV.bs 0 k]) [] vs,.val (.int .i64 room)]⟩] (pms (.val (.int .i64 (if atI ks key<ks.length then 0 else 3))) [⟨vm,.obj [.sl 0 1 (fun k:List UInt8=>[AV.bs 0 k]) [] (delM ks vs key).1,.sl 0 1 (fun k:List UInt8=>[AV.bs 0 k]) [] (delM ks vs key).2,.val (.int .i64 room)]⟩] []):=by
 by_cases h:atI ks key<ks.length
 ·rw[show delM ks vs key=(dropAt ks (atI ks key),dropAt vs (atI ks key)) from if_pos h,if_pos h]
  exact spec_frz (del9_raw z ks vs key room hl hv _ rfl h vm) (by simp[geM]) AF.same ⟨rfl,BF.obj rfl (AFL.cons (kf_sl rfl rfl) (AFL.cons (kf_sl rfl rfl) (AFL.cons AF.same AFL.nil))),trivial⟩
 ·rw[show delM ks vs key=(ks,vs) from if_neg h,if_neg h]
  exact del9_no z ks vs key room hl h vm
def insI:List (List UInt8)→List UInt8→Nat
 | [],_=>0
 | k::r,key=>if Op.bytesLess k key=true then 1+insI r key else 0
theorem insI_le:∀(ks:List (List UInt8))(key:List UInt8),insI ks key≤ks.length
 | [],_=>Nat.le_refl _
 | k::r,key=>by
  unfold insI
  have:=insI_le r key
  rw[List.length_cons]
  split<;>omega
theorem insI_yes:∀(ks:List (List UInt8))(key:List UInt8)(i:Nat),i≤insI ks key→i<ks.length→Op.bytesLess (ks.getD i []) key=true→i+1≤insI ks key
 | [],_,i,_,h,_=>absurd h (Nat.not_lt_zero _)
 | k::r,key,0,h1,h2,h3=>by
  have hk:Op.bytesLess k key=true:=by simpa using h3
  unfold insI
  rw[if_pos hk];omega
 | k::r,key,i+1,h1,h2,h3=>by
  unfold insI at h1⊢
  split at h1
  ·rename_i hk
   rw[if_pos hk]
   have:=insI_yes r key i (by omega) (by simpa using h2) (by simpa using h3)
   omega
  ·omega
theorem insI_no:∀(ks:List (List UInt8))(key:List UInt8)(i:Nat),i≤insI ks key→i<ks.length→Op.bytesLess (ks.getD i []) key=false→insI ks key=i
 | [],_,i,_,h,_=>absurd h (Nat.not_lt_zero _)
 | k::r,key,0,h1,h2,h3=>by
  have hk:Op.bytesLess k key=false:=by simpa using h3
  unfold insI
  rw[if_neg (by rw[hk];simp)]
 | k::r,key,i+1,h1,h2,h3=>by
  unfold insI at h1⊢
  split at h1
  ·rename_i hk
   rw[if_pos hk,insI_no r key i (by omega) (by simpa using h2) (by simpa using h3)]
   omega
  ·omega
def putAt(l:List (List UInt8))(p:Nat)(x:List UInt8):List (List UInt8):=l.take p++[x]++l.drop p
theorem putAt_len{l:List (List UInt8)}{p:Nat}{x:List UInt8}(h:p≤l.length):(putAt l p x).length=l.length+1:=by
 unfold putAt
 rw[List.length_append,List.length_append,List.length_take,List.length_drop,List.length_singleton];omega
theorem put_map(f:List UInt8→List AV)(l:List (List UInt8))(i:Nat)(x:List UInt8):(l.take i++[x]).map f++(List.drop (i:Int).toNat (l.take (l.length:Int).toNat)).map f=(putAt l i x).map f:=by
 unfold putAt
 rw[Int.toNat_natCast,Int.toNat_natCast,List.take_length,←List.map_append]
def setV(ks vs:List (List UInt8))(room:Int)(key val:List UInt8):Int×List (List UInt8)×List (List UInt8):=
 if key.length<1∨255<key.length∨65536<val.length then(1,ks,vs)
 else if room< (usedM ks vs ks.length+(12+key.length+val.length):Nat) then(5,ks,vs)
 else(0,putAt (delM ks vs key).1 (insI (delM ks vs key).1 key) key,putAt (delM ks vs key).2 (insI (delM ks vs key).1 key) val)
theorem delM_len{ks vs:List (List UInt8)}{key:List UInt8}(hv:vs.length=ks.length):(delM ks vs key).2.length=(delM ks vs key).1.length∧(delM ks vs key).1.length≤ks.length:=by
 by_cases h:atI ks key<ks.length
 ·rw[show delM ks vs key=(dropAt ks (atI ks key),dropAt vs (atI ks key)) from if_pos h]
  have h1:=dropAt_len h
  have h2:=dropAt_len (l:=vs) (p:=atI ks key) (by omega)
  simp only
  omega
 ·rw[show delM ks vs key=(ks,vs) from if_neg h]
  exact⟨hv,Nat.le_refl _⟩
theorem blkN{id:Nat}{Q:Ex→St→Prop}{s:St}(h:Q .normal s):blkK id Q .normal s:=h
theorem set9_raw (ks vs : List (List UInt8)) (key val : List UInt8) (room : Int) (hl : ks.length ≤ 4096) (hv : vs.length = ks.length) (hb : (∀ k ∈ ks, k.length ≤ 4294967296) ∧ (∀ v ∈ vs, v.length ≤ 4294967296)) (hk : ¬ (key.length < 1 ∨ 255 < key.length ∨ 65536 < val.length)) (hr : ¬ room < (usedM ks vs ks.length + (12 + key.length + val.length) : Nat)) (p : Nat) (hp : insI (delM ks vs key).1 key = p) (vm : Nat) : Spec Tryz.prog 21 [.ref 0 vm 3 0 0, .bs 0 key, .bs 0 val] [⟨vm, .obj [.sl 0 1 (fun k : List UInt8 => [AV.bs 0 k]) [] ks, .sl 0 1 (fun k : List UInt8 => [AV.bs 0 k]) [] vs, .val (.int .i64 room)]⟩]
   (pms (.val (.int .i64 0)) [⟨vm,.obj [.own 62 4 1 0 (putAt (delM ks vs key).1 p key).length,.own 74 4 1 0 (putAt (delM ks vs key).2 p val).length,.val (.int .i64 room)]⟩] [(62,⟨4,.row 1 (fun k:List UInt8=>[AV.bs 0 k]) [] (putAt (delM ks vs key).1 p key)⟩),(74,⟨4,.row 1 (fun k:List UInt8=>[AV.bs 0 k]) [] (putAt (delM ks vs key).2 p val)⟩)]):=by
 have hus:=used9_vc ks vs room hl hv hb vm
 have hdl:=del9_vc 0 ks vs key room hl hv vm
 have hdm:=delM_len (key:=key) hv
 have hul:=usedM_le hb hv ks.length (Nat.le_refl _)
 have hpl:=insI_le (delM ks vs key).1 key
 generalize delM ks vs key=D at hdl hdm hp hpl⊢
 obtain⟨K,V⟩:=D
 simp only at hdl hdm hp hpl⊢
 subst hp
 have hs:∀l,(strOf l).data.toList=l:=fun l=>by simp[strOf]
 refine spec_entry tbOk Tryz.func21 rfl Tryz.ntmps21 Tryz.results21 ?_
 refine gg (k:= ?_)
 refine draw_of (p:=1) tbOk hm [0,1,0,4,0,16,63,127,0,256,768,1792,4095] [⟨0,false,false,[]⟩,⟨2,false,false,[]⟩,⟨3,true,false,[23,24,27,28,29,30,31,32,33,34,35]⟩,⟨4,false,false,[]⟩,⟨5,true,false,[23,24,25,26,29,30,31,32,33,34,35]⟩,⟨8,false,false,[]⟩,⟨9,true,false,[23,24,25,26,27,28,29,30,33,34,35]⟩,⟨10,true,false,[23,24,25,26,27,28,29,30,34,35]⟩,⟨11,true,false,[23,24,25,26,27,28,29,30,35]⟩,⟨1,true,false,[25,26,27,28,29,30,31,32,33,34,35]⟩,⟨6,true,false,[30,31,32,33,34,35]⟩,⟨7,false,false,[]⟩,⟨12,false,false,[]⟩] (by kernel_rfl) ?_
 refine gg (k:= ?_)
 refine cmks (hus) Tryz.call75 1 [0] [0] [] ?_
 refine gg (k:= ?_)
 refine cmks (need8_vc key.length val.length (by omega) (by omega)) Tryz.call76 0 [] [] [] ?_
 refine gg (k:= ?_)
 refine cmks (hdl) Tryz.call24 1 [0] [0] [] ?_
 refine gg (k:= ?_)
 (refine sts (k:= ?_))
 conv=>whnf
 refine loop_at (fun i:Nat=>i≤insI K key) (fun i=>K.length - i) 1 [7,39,40,41,42,43,44,45,46,47,48,49,50,51,52,53,54,55,56,57,58,59,60] (fun i=>[(7,.val (.int .i64 (i:Int)))]) (fun i=>[]) 0 (Nat.zero_le _) ?_ ?_ ?_
 ·exact no_implicit_lambda%ten
 ·exact no_implicit_lambda%hen
 ·rintro i v i1
  refine glp (k:= ?_)
  refine gg (k:= ?_)
  refine draw_of (p:=1) tbOk hm [0,0,2,6,14,30,63,127,255,511,1023,2047,255,8191,16383,32767,255,65791,262143,524287] [⟨0,false,false,[]⟩,⟨1,false,false,[]⟩,⟨2,true,false,[39,42,43,44,45,46,47,48,49,50,51,52,53,54,55,56,57,58]⟩,⟨3,true,false,[39,43,44,45,46,47,48,49,50,51,52,53,54,55,56,57,58]⟩,⟨4,true,false,[39,44,45,46,47,48,49,50,51,52,53,54,55,56,57,58]⟩,⟨5,true,false,[39,45,46,47,48,49,50,51,52,53,54,55,56,57,58]⟩,⟨6,false,false,[]⟩,⟨7,false,false,[]⟩,⟨8,false,false,[]⟩,⟨9,true,false,[49,50,51,52,53,54,55,56,57,58]⟩,⟨10,true,false,[50,51,52,53,54,55,56,57,58]⟩,⟨11,true,false,[51,52,53,54,55,56,57,58]⟩,⟨12,false,false,[]⟩,⟨13,true,false,[53,54,55,56,57,58]⟩,⟨14,true,false,[54,55,56,57,58]⟩,⟨15,true,false,[55,56,57,58]⟩,⟨16,false,false,[]⟩,⟨17,true,false,[47,48,49,50,51,52,53,54,57,58]⟩,⟨18,false,false,[]⟩,⟨19,false,false,[]⟩] (by kernel_rfl) ?_
  by_cases hlt:i<K.length
  ·refine gg (k:= ?_)
   refine⟨fun h'=> ?_,fun h'=> ?_⟩
   ·simp only[Bool.and_eq_true,hs,Int.toNat_natCast] at h'
    have hk1:=insI_yes K key i i1 hlt h'.2
    have hi9:(i:Int)+1≤4096:=by omega
    clear h' hul hr hk hs hdl hus hb
    refine gg (k:= ?_)
    refine(show blkK 1 (backA _ _ _ _ _ _ _ _ _) .normal _ from ?_)
    refine blkN ?_
    refine back_at (i+1) hk1 (by show K.length - (i+1)<K.length - i;omega) ?_ ?_
    ·exact no_implicit_lambda%ten
    ·exact no_implicit_lambda%hen
   ·simp only[Bool.and_eq_false_iff,hs,Int.toNat_natCast,decide_eq_false_iff_not] at h'
    have hk1:=insI_no K key i i1 hlt (h'.resolve_left (by omega))
    subst hk1
    (
 have t1:(K.take (insI K key)).length=(insI K key):=by rw[List.length_take];omega
 have t2:(V.take (insI K key)).length=(insI K key):=by rw[List.length_take];omega
 have t3:=putAt_len (x:=key) hpl
 have t4:=putAt_len (l:=V) (p:=(insI K key)) (x:=val) (by omega)
 refine gg (k:= ?_)
 (
 refine⟨List UInt8,(fun k:List UInt8=>[AV.bs 0 k]),[],(K.take (insI K key)),?_⟩
 conv=>whnf
 refine And.intro ⟨rfl,fun x hx=>⟨trivial,trivial⟩,rfl,rfl,rfl,rfl,.inr rfl,rfl,by show _*24≤_;(try simp only[List.length_append]);omega,by decide⟩ ?_)
 refine gg (k:= ?_)
 (
 refine⟨List UInt8,(fun k:List UInt8=>[AV.bs 0 k]),[],(K.take (insI K key)++[key]),?_⟩
 conv=>whnf
 refine And.intro ⟨rfl,⟨rfl,rfl,Nat.le_refl _,fun q hq=>(by(have hq0:q=0:=by simpa using hq);subst hq0;exact⟨trivial,trivial⟩)⟩,rfl,rfl,rfl,rfl,.inr rfl,(by rw[List.map_append];rfl),by show _*24≤_;simp only[List.length_append,List.length_singleton];omega,by decide⟩ ?_)
 refine gg (k:= ?_)
 (
 refine⟨List UInt8,(fun k:List UInt8=>[AV.bs 0 k]),[],(V.take (insI K key)),?_⟩
 conv=>whnf
 refine And.intro ⟨rfl,fun x hx=>⟨trivial,trivial⟩,rfl,rfl,rfl,rfl,.inr rfl,rfl,by show _*24≤_;(try simp only[List.length_append]);omega,by decide⟩ ?_)
 refine gg (k:= ?_)
 (
 refine⟨List UInt8,(fun k:List UInt8=>[AV.bs 0 k]),[],(V.take (insI K key)++[val]),?_⟩
 conv=>whnf
 refine And.intro ⟨rfl,⟨rfl,rfl,Nat.le_refl _,fun q hq=>(by(have hq0:q=0:=by simpa using hq);subst hq0;exact⟨trivial,trivial⟩)⟩,rfl,rfl,rfl,rfl,.inr rfl,(by rw[List.map_append];rfl),by show _*24≤_;simp only[List.length_append,List.length_singleton];omega,by decide⟩ ?_)
 refine gg (k:= ?_)
 (
 refine⟨List UInt8,(fun k:List UInt8=>[AV.bs 0 k]),[],(putAt K (insI K key) key),?_⟩
 conv=>whnf
 refine And.intro ⟨rfl,fun x hx=>⟨trivial,trivial⟩,rfl,rfl,rfl,rfl,.inr rfl,put_map _ _ _ _,by show _*24≤_;(try simp only[List.length_append]);omega,by decide⟩ ?_)
 refine gg (k:= ?_)
 (
 refine⟨List UInt8,(fun k:List UInt8=>[AV.bs 0 k]),[],(putAt V (insI K key) val),?_⟩
 conv=>whnf
 refine And.intro ⟨rfl,fun x hx=>⟨trivial,trivial⟩,rfl,rfl,rfl,rfl,.inr rfl,put_map _ _ _ _,by show _*24≤_;(try simp only[List.length_append]);omega,by decide⟩ ?_)
 refine gg (k:= ?_)
 exact⟨_,rfl,rfl,rfl,rfl,trivial⟩)
  ·have hk1:insI K key=i:=by omega
   subst hk1
   (
 have t1:(K.take (insI K key)).length=(insI K key):=by rw[List.length_take];omega
 have t2:(V.take (insI K key)).length=(insI K key):=by rw[List.length_take];omega
 have t3:=putAt_len (x:=key) hpl
 have t4:=putAt_len (l:=V) (p:=(insI K key)) (x:=val) (by omega)
 refine gg (k:= ?_)
 (
 refine⟨List UInt8,(fun k:List UInt8=>[AV.bs 0 k]),[],(K.take (insI K key)),?_⟩
 conv=>whnf
 refine And.intro ⟨rfl,fun x hx=>⟨trivial,trivial⟩,rfl,rfl,rfl,rfl,.inr rfl,rfl,by show _*24≤_;(try simp only[List.length_append]);omega,by decide⟩ ?_)
 refine gg (k:= ?_)
 (
 refine⟨List UInt8,(fun k:List UInt8=>[AV.bs 0 k]),[],(K.take (insI K key)++[key]),?_⟩
 conv=>whnf
 refine And.intro ⟨rfl,⟨rfl,rfl,Nat.le_refl _,fun q hq=>(by(have hq0:q=0:=by simpa using hq);subst hq0;exact⟨trivial,trivial⟩)⟩,rfl,rfl,rfl,rfl,.inr rfl,(by rw[List.map_append];rfl),by show _*24≤_;simp only[List.length_append,List.length_singleton];omega,by decide⟩ ?_)
 refine gg (k:= ?_)
 (
 refine⟨List UInt8,(fun k:List UInt8=>[AV.bs 0 k]),[],(V.take (insI K key)),?_⟩
 conv=>whnf
 refine And.intro ⟨rfl,fun x hx=>⟨trivial,trivial⟩,rfl,rfl,rfl,rfl,.inr rfl,rfl,by show _*24≤_;(try simp only[List.length_append]);omega,by decide⟩ ?_)
 refine gg (k:= ?_)
 (
 refine⟨List UInt8,(fun k:List UInt8=>[AV.bs 0 k]),[],(V.take (insI K key)++[val]),?_⟩
 conv=>whnf
 refine And.intro ⟨rfl,⟨rfl,rfl,Nat.le_refl _,fun q hq=>(by(have hq0:q=0:=by simpa using hq);subst hq0;exact⟨trivial,trivial⟩)⟩,rfl,rfl,rfl,rfl,.inr rfl,(by rw[List.map_append];rfl),by show _*24≤_;simp only[List.length_append,List.length_singleton];omega,by decide⟩ ?_)
 refine gg (k:= ?_)
 (
 refine⟨List UInt8,(fun k:List UInt8=>[AV.bs 0 k]),[],(putAt K (insI K key) key),?_⟩
 conv=>whnf
 refine And.intro ⟨rfl,fun x hx=>⟨trivial,trivial⟩,rfl,rfl,rfl,rfl,.inr rfl,put_map _ _ _ _,by show _*24≤_;(try simp only[List.length_append]);omega,by decide⟩ ?_)
 refine gg (k:= ?_)
 (
 refine⟨List UInt8,(fun k:List UInt8=>[AV.bs 0 k]),[],(putAt V (insI K key) val),?_⟩
 conv=>whnf
 refine And.intro ⟨rfl,fun x hx=>⟨trivial,trivial⟩,rfl,rfl,rfl,rfl,.inr rfl,put_map _ _ _ _,by show _*24≤_;(try simp only[List.length_append]);omega,by decide⟩ ?_)
 refine gg (k:= ?_)
 exact⟨_,rfl,rfl,rfl,rfl,trivial⟩)
theorem set9_vc (ks vs : List (List UInt8)) (key val : List UInt8) (room : Int) (hl : ks.length ≤ 4096) (hv : vs.length = ks.length) (hb : (∀ k ∈ ks, k.length ≤ 4294967296) ∧ (∀ v ∈ vs, v.length ≤ 4294967296)) (hk : ¬ (key.length < 1 ∨ 255 < key.length ∨ 65536 < val.length)) (hr : ¬ room < (usedM ks vs ks.length + (12 + key.length + val.length) : Nat)) (vm : Nat) : Spec Tryz.prog 21 [.ref 0 vm 3 0 0, .bs 0 key, .bs 0 val] [⟨vm, .obj [.sl 0 1 (fun k : List UInt8 => [AV.bs 0 k]) [] ks, .sl 0 1 (fun k : List UInt8 => [AV.bs 0 k]) [] vs, .val (.int .i64 room)]⟩]
   (pms (.val (.int .i64 (setV ks vs room key val).1)) [⟨vm,.obj [.sl 0 1 (fun k:List UInt8=>[AV.bs 0 k]) [] (setV ks vs room key val).2.1,.sl 0 1 (fun k:List UInt8=>[AV.bs 0 k]) [] (setV ks vs room key val).2.2,.val (.int .i64 room)]⟩] []):=by
 rw[show setV ks vs room key val=(0,putAt (delM ks vs key).1 (insI (delM ks vs key).1 key) key,putAt (delM ks vs key).2 (insI (delM ks vs key).1 key) val) by unfold setV;rw[if_neg hk,if_neg hr]]
 exact spec_frz (set9_raw ks vs key val room hl hv hb hk hr _ rfl vm) (by simp[geM]) AF.same ⟨rfl,BF.obj rfl (AFL.cons (kf_sl rfl rfl) (AFL.cons (kf_sl rfl rfl) (AFL.cons AF.same AFL.nil))),trivial⟩
theorem set9_all (ks vs : List (List UInt8)) (key val : List UInt8) (room : Int) (hl : ks.length ≤ 4096) (hv : vs.length = ks.length) (hb : (∀ k ∈ ks, k.length ≤ 4294967296) ∧ (∀ v ∈ vs, v.length ≤ 4294967296)) (hkl : key.length ≤ 140737488355328) (hvl : val.length ≤ 140737488355328) (vm : Nat) : Spec Tryz.prog 21 [.ref 0 vm 3 0 0, .bs 0 key, .bs 0 val] [⟨vm, .obj [.sl 0 1 (fun k : List UInt8 => [AV.bs 0 k]) [] ks, .sl 0 1 (fun k : List UInt8 => [AV.bs 0 k]) [] vs, .val (.int .i64 room)]⟩]
   (pms (.val (.int .i64 (setV ks vs room key val).1)) [⟨vm,.obj [.sl 0 1 (fun k:List UInt8=>[AV.bs 0 k]) [] (setV ks vs room key val).2.1,.sl 0 1 (fun k:List UInt8=>[AV.bs 0 k]) [] (setV ks vs room key val).2.2,.val (.int .i64 room)]⟩] []):=by
 by_cases hk:key.length<1∨255<key.length∨65536<val.length
 ·rw[show setV ks vs room key val=(1,ks,vs) from if_pos hk]
  refine spec_entry tbOk Tryz.func21 rfl Tryz.ntmps21 Tryz.results21 ?_
  refine gg (k:= ?_)
  exact⟨_,rfl,rfl,trivial⟩
 by_cases hr:room< (usedM ks vs ks.length+(12+key.length+val.length):Nat)
 ·rw[show setV ks vs room key val=(5,ks,vs) by unfold setV;rw[if_neg hk,if_pos hr]]
  have hus:=used9_vc ks vs room hl hv hb vm
  have hul:=usedM_le hb hv ks.length (Nat.le_refl _)
  refine spec_entry tbOk Tryz.func21 rfl Tryz.ntmps21 Tryz.results21 ?_
  refine gg (k:= ?_)
  refine draw_of (p:=1) tbOk hm [0,1,0,4,0,16,63,127,0,256,768,1792,4095] [⟨0,false,false,[]⟩,⟨2,false,false,[]⟩,⟨3,true,false,[23,24,27,28,29,30,31,32,33,34,35]⟩,⟨4,false,false,[]⟩,⟨5,true,false,[23,24,25,26,29,30,31,32,33,34,35]⟩,⟨8,false,false,[]⟩,⟨9,true,false,[23,24,25,26,27,28,29,30,33,34,35]⟩,⟨10,true,false,[23,24,25,26,27,28,29,30,34,35]⟩,⟨11,true,false,[23,24,25,26,27,28,29,30,35]⟩,⟨1,true,false,[25,26,27,28,29,30,31,32,33,34,35]⟩,⟨6,true,false,[30,31,32,33,34,35]⟩,⟨7,false,false,[]⟩,⟨12,false,false,[]⟩] (by kernel_rfl) ?_
  refine gg (k:= ?_)
  refine cmks (hus) Tryz.call75 1 [0] [0] [] ?_
  refine gg (k:= ?_)
  refine cmks (need8_vc key.length val.length (by omega) (by omega)) Tryz.call76 0 [] [] [] ?_
  refine gg (k:= ?_)
  exact⟨_,rfl,rfl,trivial⟩
 exact set9_vc ks vs key val room hl hv hb hk hr vm
end Go.Proofs.YtpbpiehcchannaaGreatDoor
namespace Go.Proofs.YtpbpiehcchannaaGreatDoor
set_option linter.unusedVariables false
set_option linter.unusedSimpArgs false
def ksR(R:List RK):List (List UInt8):=R.map fun r=>r.key
def vsR(R:List RK):List (List UInt8):=R.map fun r=>r.val
theorem ksR_len(R:List RK):(ksR R).length=R.length:=List.length_map ..
theorem vsR_len(R:List RK):(vsR R).length=R.length:=List.length_map ..
theorem dropAt_zero(x:List UInt8)(l:List (List UInt8)):dropAt (x::l) 0=l:=by simp[dropAt]
theorem dropAt_succ(x:List UInt8)(l:List (List UInt8))(p:Nat):dropAt (x::l) (p+1)=x::dropAt l p:=by simp[dropAt]
theorem atI_cons(r:RK)(R:List RK)(key:List UInt8):atI (ksR (r::R)) key=if r.key=key then 0 else 1+atI (ksR R) key:=rfl
theorem atI_in:∀(R:List RK)(key:List UInt8),atI (ksR R) key<R.length↔∃r∈R,r.key=key
 | [],key=>by simp
 | r::R,key=>by
  have ih:=atI_in R key
  rw[atI_cons]
  by_cases h:r.key=key
  ·rw[if_pos h];simp[h]
  ·rw[if_neg h,List.length_cons,show(1+atI (ksR R) key<R.length+1)=(atI (ksR R) key<R.length) by rw[Nat.add_comm,Nat.add_lt_add_iff_right],ih]
   simp[h]
theorem delR_out{R:List RK}{key:List UInt8}(h:∀r∈R,r.key≠key):delR R key=R:=by
 unfold delR
 rw[List.filter_eq_self]
 intro r hr
 simp[h r hr]
theorem drop_R:∀(R:List RK)(key:List UInt8),SortK R→(∃r∈R,r.key=key)→dropAt (ksR R) (atI (ksR R) key)=ksR (delR R key)∧dropAt (vsR R) (atI (ksR R) key)=vsR (delR R key)
 | [],key,_,h=>by obtain⟨r,hr,_⟩:=h;cases hr
 | r::R,key,hs,h=>by
  unfold SortK at hs
  rw[List.pairwise_cons] at hs
  rw[atI_cons]
  by_cases hk:r.key=key
  ·have hd:delR (r::R) key=R:=by
     have h1:delR R key=R:=delR_out fun x hx e=>by
      have:=hs.1 x hx
      rw[e,←hk,ltB_irr] at this
      cases this
     unfold delR at h1⊢
     rw[List.filter_cons_of_neg (by simp[hk]),h1]
   rw[if_pos hk,hd]
   exact⟨dropAt_zero _ _,dropAt_zero _ _⟩
  ·have hd:delR (r::R) key=r::delR R key:=by
     unfold delR
     rw[List.filter_cons_of_pos (by simp[hk])]
   obtain⟨x,hx,he⟩:=h
   have hx':x∈R:=by
    rcases List.mem_cons.1 hx with rfl | hx
    ·exact absurd he hk
    ·exact hx
   obtain⟨i1,i2⟩:=drop_R R key hs.2 ⟨x,hx',he⟩
   rw[if_neg hk,hd,Nat.add_comm]
   exact⟨by show dropAt (r.key::ksR R) _=r.key::_;rw[dropAt_succ,i1];rfl,by show dropAt (r.val::vsR R) _=r.val::_;rw[dropAt_succ,i2];rfl⟩
theorem delM_R{R:List RK}(hs:SortK R)(key:List UInt8):delM (ksR R) (vsR R) key=(ksR (delR R key),vsR (delR R key)):=by
 by_cases h:∃r∈R,r.key=key
 ·have h1:=(atI_in R key).2 h
  unfold delM
  rw[if_pos (by rw[ksR_len];exact h1),(drop_R R key hs h).1,(drop_R R key hs h).2]
 ·have h1:¬atI (ksR R) key< (ksR R).length:=by rw[ksR_len,atI_in];exact h
  unfold delM
  rw[if_neg h1,delR_out fun r hr e=>h ⟨r,hr,e⟩]
theorem insI_R:∀(R:List RK)(key:List UInt8),insI (ksR R) key=(R.takeWhile fun r=>ltB r.key key).length
 | [],key=>rfl
 | r::R,key=>by
  have ih:=insI_R R key
  show(if Op.bytesLess r.key key=true then 1+insI (ksR R) key else 0)=_
  cases h:ltB r.key key with
  | true=>
   have h':Op.bytesLess r.key key=true:=h
   rw[if_pos h',List.takeWhile_cons_of_pos (p:=fun r:RK=>ltB r.key key) h,List.length_cons,ih,Nat.add_comm]
  | false=>
   rw[if_neg (by rw[show Op.bytesLess r.key key=false from h];simp),List.takeWhile_cons_of_neg (p:=fun r:RK=>ltB r.key key) (by simp[h])]
   rfl
theorem put_R(R:List RK)(x:RK):putAt (ksR R) (insI (ksR R) x.key) x.key=ksR (insR R x)∧putAt (vsR R) (insI (ksR R) x.key) x.val=vsR (insR R x):=by
 have h:(R.takeWhile (fun r=>ltB r.key x.key)++R.dropWhile (fun r=>ltB r.key x.key))=R:=List.takeWhile_append_dropWhile
 rw[insI_R]
 unfold insR putAt ksR vsR
 generalize R.takeWhile (fun r=>ltB r.key x.key)=a at h⊢
 generalize R.dropWhile (fun r=>ltB r.key x.key)=b at h⊢
 subst h
 constructor
 ·rw[List.map_append,List.take_left' (by simp),List.drop_left' (by simp)];simp
 ·rw[List.map_append,List.take_left' (by simp),List.drop_left' (by simp)];simp
theorem usedK_snoc(r:RK):∀l:List RK,usedK (l++[r])=usedK l+(12+r.key.length+r.val.length)
 | []=>by simp[usedK]
 | x::l=>by
  have:=usedK_snoc r l
  simp only[List.cons_append,usedK,this];omega
theorem usedM_R(R:List RK):∀n,n≤R.length→usedM (ksR R) (vsR R) n=usedK (R.take n)
 | 0,_=>by simp[usedM,usedK]
 | n+1,h=>by
  have ih:=usedM_R R n (by omega)
  have hn:n<R.length:=by omega
  have h1:(ksR R).getD n []=R[n].key:=by unfold ksR;rw[List.getD_eq_getElem?_getD,List.getElem?_map,List.getElem?_eq_getElem hn];rfl
  have h2:(vsR R).getD n []=R[n].val:=by unfold vsR;rw[List.getD_eq_getElem?_getD,List.getElem?_map,List.getElem?_eq_getElem hn];rfl
  rw[usedM,ih,h1,h2,List.take_succ_eq_append_getElem hn,usedK_snoc]
theorem usedM_all(R:List RK):usedM (ksR R) (vsR R) (ksR R).length=usedK R:=by
 rw[ksR_len,usedM_R R _ (Nat.le_refl _),List.take_length]
def setE(R:List RK)(room:Int)(key val:List UInt8):Int:=if key.length<1∨255<key.length∨65536<val.length then 1 else if room< (usedK R+(12+key.length+val.length):Nat) then 5 else 0
def setW(R:List RK)(room:Int)(key val:List UInt8):List RK:=if setE R room key val=0 then setR R key val else R
theorem setV_R{R:List RK}(hs:SortK R)(room:Int)(key val:List UInt8):setV (ksR R) (vsR R) room key val=(setE R room key val,ksR (setW R room key val),vsR (setW R room key val)):=by
 unfold setV setW setE
 rw[usedM_all,delM_R hs]
 by_cases h1:key.length<1∨255<key.length∨65536<val.length
 ·simp only[if_pos h1];rfl
 ·simp only[if_neg h1]
  by_cases h2:room< (usedK R+(12+key.length+val.length):Nat)
  ·simp only[if_pos h2];rfl
  ·simp only[if_neg h2,if_true]
   have:=put_R (delR R key) ⟨key,val,true⟩
   unfold setR
   rw[←this.1,←this.2]
def delE(R:List RK)(key:List UInt8):Int:=if atI (ksR R) key< (ksR R).length then 0 else 3
theorem delE_in{R:List RK}{key:List UInt8}(h:∃r∈R,r.key=key):delE R key=0:=if_pos (by rw[ksR_len];exact(atI_in R key).2 h)
theorem delE_out{R:List RK}{key:List UInt8}(h:∀r∈R,r.key≠key):delE R key=3:=if_neg (by rw[ksR_len,atI_in];rintro⟨r,hr,e⟩;exact h r hr e)
structure SM(s:FlS)(c k i:Nat)(R:List RK):Prop where
 ex:∃(G:Int)(M:List RK),NM s c k G M∧RM M R∧G≤1+i
 go:Goes (1000+i*300000000000) (2*c*k) k s
 len:R.length≤i
 ok:∀r∈R,OkK r
theorem SM.sort{s:FlS}{c k i:Nat}{R:List RK}(h:SM s c k i R):SortK R:=by
 obtain⟨G,M,_,h2,_⟩:=h.ex
 exact h2.sort
theorem SM.mono{s:FlS}{c k i j:Nat}{R:List RK}(h:SM s c k i R)(hij:i≤j):SM s c k j R:=by
 obtain⟨G,M,h1,h2,h3⟩:=h.ex
 exact⟨⟨G,M,h1,h2,by omega⟩,h.go.mono (by omega),Nat.le_trans h.len hij,h.ok⟩
theorem delR_len(R:List RK)(key:List UInt8):(delR R key).length≤R.length:=List.length_filter_le ..
theorem setR_len(R:List RK)(key val:List UInt8):(setR R key val).length≤R.length+1:=by
 have h:=(insR_perm (delR R key) ⟨key,val,true⟩).length_eq
 have:=delR_len R key
 unfold setR
 rw[h,List.length_append,List.length_singleton];omega
theorem SM.set {s : FlS} {c k i : Nat} {R : List RK} (h : SM s c k i R) (hi : i ≤ 4000000000) (hk : 0 < k) (pa : Lies (2 * c * k) k 0 c) (pb : Lies (2 * c * k) k c c) (key val : List UInt8) :
    (s.set c key val).1=setE R ((c*k - 16:Nat):Int) key val∧SM (s.set c key val).2 c k (i+1) (setW R ((c*k - 16:Nat):Int) key val)∧(setE R ((c*k - 16:Nat):Int) key val≠0→(s.set c key val).2=s):=by
 obtain⟨G,M,h1,h2,h3⟩:=h.ex
 have hu:=h2.used
 unfold setW
 by_cases hb:key.length<1∨255<key.length∨65536<val.length
 ·have e:s.set c key val=(1,s):=by unfold FlS.set;rw[if_pos hb]
  have e2:setE R ((c*k - 16:Nat):Int) key val=1:=if_pos hb
  rw[e,e2,if_neg (by decide)]
  exact⟨rfl,h.mono (Nat.le_succ i),fun _=>rfl⟩
 ·have hs:=h1.set hk (by omega:G<4294967295) (key:=key) (val:=val) ⟨by omega,by omega⟩ (by omega)
  by_cases hf:((c*k - 16:Nat):Int)< (usedK R+(12+key.length+val.length):Nat)
  ·have e:=hs.1 (by rw[←hu];omega)
   have e2:setE R ((c*k - 16:Nat):Int) key val=5:=by unfold setE;rw[if_neg hb,if_pos hf]
   rw[e,e2,if_neg (by decide)]
   exact⟨rfl,h.mono (Nat.le_succ i),fun _=>rfl⟩
  ·obtain⟨s',e,m'⟩:=hs.2 (by rw[←hu];omega)
   have e2:setE R ((c*k - 16:Nat):Int) key val=0:=by unfold setE;rw[if_neg hb,if_neg hf]
   have gg:=h.go.set pa pb key val
   rw[e] at gg⊢
   rw[e2,if_pos rfl]
   have hperm:=insR_perm (delR R key) ⟨key,val,true⟩
   refine⟨rfl,⟨⟨G+1,_,m',h2.set key val,by omega⟩,gg.mono (by omega),Nat.le_trans (setR_len R key val) (Nat.succ_le_succ h.len),fun r hr=> ?_⟩,fun q=>absurd rfl q⟩
   rcases List.mem_append.1 (hperm.mem_iff.1 hr) with hr | hr
   ·exact h.ok r (List.mem_filter.1 hr).1
   ·rw[List.mem_singleton] at hr;subst hr
    exact⟨⟨by show 1≤key.length;omega,by show key.length≤255;omega⟩,by show val.length≤65536;omega⟩
theorem Goes.del{B:Int}{n k:Nat}{s:FlS}(g:Goes B n k s)(c:Nat)(key:List UInt8):Goes (B+1) n k (s.del c key).2:=by
 unfold FlS.del
 split
 ·exact g.mono (by omega)
 ·split
  ·exact g.mono (by omega)
  ·exact g.kill _ _ _
theorem SM.del {s : FlS} {c k i : Nat} {R : List RK} (h : SM s c k i R) (key : List UInt8) :
    (s.del c key).1=delE R key∧SM (s.del c key).2 c k (i+1) (delR R key)∧(delE R key≠0→(s.del c key).2=s∧delR R key=R):=by
 obtain⟨G,M,h1,h2,h3⟩:=h.ex
 have hd:=h1.del key
 by_cases hx:∃r∈R,r.key=key
 ·have hx':∃r∈M,r.key=key:=by obtain⟨r,hr,e⟩:=hx;exact⟨r,h2.perm.mem_iff.1 hr,e⟩
  obtain⟨s',e,m'⟩:=hd.2 hx'
  have gg:=h.go.del c key
  rw[e] at gg⊢
  rw[delE_in hx]
  exact⟨rfl,⟨⟨G,_,m',h2.del key,by omega⟩,gg.mono (by omega),Nat.le_trans (delR_len R key) (Nat.le_succ_of_le h.len),fun r hr=>h.ok r (List.mem_filter.1 hr).1⟩,fun q=>absurd rfl q⟩
 ·have hx1:∀r∈R,r.key≠key:=fun r hr e=>hx ⟨r,hr,e⟩
  have e:=hd.1 fun r hr q=>hx1 r (h2.perm.mem_iff.2 hr) q
  rw[e,delE_out hx1,delR_out hx1]
  exact⟨rfl,h.mono (Nat.le_succ i),fun _=>⟨rfl,rfl⟩⟩
theorem SM.new{c k:Nat}(hc:2≤2*c∧2*c≤64)(hk:16≤k∧k≤65536)(hbig:64≤c*k):∃s,(FlS.new (2*c) k).opn c=(0,s)∧SM s c k 0 []:=by
 obtain⟨s1,b1,o1,m1⟩:=NM.new (c:=c) (k:=k) (by omega) hbig
 have g0:Goes 0 (2*c*k) k (FlS.new (2*c) k):=Goes.new (2*c) k (by omega) hk
 have g1:=g0.bgn0 c 1
 rw[b1] at g1
 exact⟨s1,o1,⟨⟨1,[],m1,RM.nil,by omega⟩,g1.mono (by omega),Nat.zero_le _,fun r hr=>by cases hr⟩⟩
end Go.Proofs.YtpbpiehcchannaaGreatDoor
namespace Go.Proofs.YtpbpiehcchannaaGreatDoor
open Go.RowKit
set_option linter.unusedVariables false
set_option linter.unusedSimpArgs false
set_option maxRecDepth 100000
set_option maxHeartbeats 1500000
theorem ok_bnd{R:List RK}(hok:∀r∈R,OkK r):(∀k∈ksR R,k.length≤4294967296)∧(∀v∈vsR R,v.length≤4294967296):=by
 constructor
 ·intro k hk
  obtain⟨r,hr,rfl⟩:=List.mem_map.1 hk
  have:=hok r hr
  have:=this.1.2
  omega
 ·intro k hk
  obtain⟨r,hr,rfl⟩:=List.mem_map.1 hk
  have:=hok r hr
  have:=this.2
  omega
theorem mset_vc (R : List RK) (hs : SortK R) (hok : ∀ r ∈ R, OkK r) (hl : R.length ≤ 4096) (key val : List UInt8) (hkl : key.length ≤ 140737488355328) (hvl : val.length ≤ 140737488355328) (room : Int) (vm : Nat) : Spec Tryz.prog 21 [.ref 0 vm 3 0 0, .bs 0 key, .bs 0 val] [⟨vm, .obj [.sl 0 1 (fun k : List UInt8 => [AV.bs 0 k]) [] (ksR R), .sl 0 1 (fun k : List UInt8 => [AV.bs 0 k]) [] (vsR R), .val (.int .i64 room)]⟩]
   (pms (.val (.int .i64 (setE R room key val))) [⟨vm,.obj [.sl 0 1 (fun k:List UInt8=>[AV.bs 0 k]) [] (ksR (setW R room key val)),.sl 0 1 (fun k:List UInt8=>[AV.bs 0 k]) [] (vsR (setW R room key val)),.val (.int .i64 room)]⟩] []):=by
 have h:=set9_all (ksR R) (vsR R) key val room (by rw[ksR_len];exact hl) (by rw[ksR_len,vsR_len]) (ok_bnd hok) hkl hvl vm
 rw[setV_R hs] at h
 exact h
theorem mdel_vc (R : List RK) (hs : SortK R) (hl : R.length ≤ 4096) (z : Nat) (key : List UInt8) (room : Int) (vm : Nat) : Spec Tryz.prog 24 [.ref 0 vm 3 0 0, .bs z key] [⟨vm, .obj [.sl 0 1 (fun k : List UInt8 => [AV.bs 0 k]) [] (ksR R), .sl 0 1 (fun k : List UInt8 => [AV.bs 0 k]) [] (vsR R), .val (.int .i64 room)]⟩]
   (pms (.val (.int .i64 (delE R key))) [⟨vm,.obj [.sl 0 1 (fun k:List UInt8=>[AV.bs 0 k]) [] (ksR (delR R key)),.sl 0 1 (fun k:List UInt8=>[AV.bs 0 k]) [] (vsR (delR R key)),.val (.int .i64 room)]⟩] []):=by
 have h:=del9_vc z (ksR R) (vsR R) key room (by rw[ksR_len];exact hl) (by rw[ksR_len,vsR_len]) vm
 rw[delM_R hs] at h
 exact h
theorem mused_vc(R:List RK)(hok:∀r∈R,OkK r)(hl:R.length≤4096)(room:Int)(vm:Nat):Spec Tryz.prog 75 [.ref 0 vm 3 0 0] [⟨vm,.obj [.sl 0 1 (fun k:List UInt8=>[AV.bs 0 k]) [] (ksR R),.sl 0 1 (fun k:List UInt8=>[AV.bs 0 k]) [] (vsR R),.val (.int .i64 room)]⟩] (pms (.val (.int .i64 (usedK R:Int))) [⟨vm,.obj [.sl 0 1 (fun k:List UInt8=>[AV.bs 0 k]) [] (ksR R),.sl 0 1 (fun k:List UInt8=>[AV.bs 0 k]) [] (vsR R),.val (.int .i64 room)]⟩] []):=by
 have h:=used9_vc (ksR R) (vsR R) room (by rw[ksR_len];exact hl) (by rw[ksR_len,vsR_len]) (ok_bnd hok) vm
 rw[usedM_all] at h
 exact h
theorem mat_vc(R:List RK)(hl:R.length≤4096)(z:Nat)(key:List UInt8)(room:Int)(vm:Nat):Spec Tryz.prog 29 [.ref 0 vm 3 0 0,.bs z key] [⟨vm,.obj [.sl 0 1 (fun k:List UInt8=>[AV.bs 0 k]) [] (ksR R),.sl 0 1 (fun k:List UInt8=>[AV.bs 0 k]) [] (vsR R),.val (.int .i64 room)]⟩] (pms (.val (.int .i64 (atV (ksR R) key))) [⟨vm,.obj [.sl 0 1 (fun k:List UInt8=>[AV.bs 0 k]) [] (ksR R),.sl 0 1 (fun k:List UInt8=>[AV.bs 0 k]) [] (vsR R),.val (.int .i64 room)]⟩] []):=
 at9_vc z (ksR R) (vsR R) key room (by rw[ksR_len];omega) vm
end Go.Proofs.YtpbpiehcchannaaGreatDoor
