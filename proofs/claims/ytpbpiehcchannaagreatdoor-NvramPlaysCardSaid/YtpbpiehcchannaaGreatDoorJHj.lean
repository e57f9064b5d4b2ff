/- Walks of lintellaw09: sameList, holds, vast, twin. Walks of lintellaw09: vast, twin. Walks of lintellaw09: holds. Conditions: the premises of each law. -/
import Derived.Test.YtpbpiehcchannaaGreatDoorJNr2
import Derived.Test.YtpbpiehcchannaaGreatDoorJHk
import Derived.Test.YtpbpiehcchannaaGreatDoorJHq
namespace Go.Proofs.YtpbpiehcchannaaGreatDoor
open Go.RowKit
set_option linter.unusedVariables false
set_option linter.unusedSimpArgs false
set_option maxRecDepth 100000
set_option maxHeartbeats 1500000
theorem Lf(z z':Nat)(a b:List (List UInt8))(hb:∀r∈a,r.length≤140737488355328)(hl:a.length≤140737488355328):Spec Tryz.prog 73 [.sl z 1 (fun k:List UInt8=>[AV.bs z k]) [] a,.sl z' 1 (fun k:List UInt8=>[AV.bs z' k]) [] b] [] (ak (.val (.bool (decide (a=b)))) [] []):=by
 refine aq aj Tryz.func73 rfl Tryz.ntmps73 Tryz.results73 ?_
 refine gg (k:= ?_)
 refine⟨fun h=> ?_,fun h=> ?_⟩
 ·have aF:a.length≠b.length:=fun q=>by rw[q] at h;simp at h
  have lU:a≠b:=fun q=>aF (by rw[q])
  refine gg (k:= ?_)
  rw[decide_eq_false lU]
  exact⟨_,rfl,rfl,trivial⟩
 have lU:a.length=b.length:=by simp at h;omega
 refine gg (k:= ?_)
 (refine ax (k:= ?_))
 conv=>whnf
 refine bh (fun i:Nat=>i≤a.length∧a.take i=b.take i) (fun i=>a.length - i) 0 [4,5,11,12,13,14,15,16,17,18,19,20,21,22,23,24,25,26] (fun i=>[(4,.val (.bool false)),(5,.val (.int .i64 (i:Int)))]) (fun i=>[]) 0 ⟨Nat.zero_le _,by simp⟩ ?_ ?_ ?_
 ·exact no_implicit_lambda%ten
 ·exact no_implicit_lambda%az
 ·rintro i v ⟨i1,i2⟩
  refine bc (k:= ?_)
  refine gg (k:= ?_)
  refine⟨fun h=> ?_,fun h=> ?_⟩
  ·have ai:i<a.length:=by have:=of_decide_eq_true h;omega
   have vH:i<b.length:=by omega
   have jW:a.getD i []∈a:=by rw[List.getD_eq_getElem?_getD,List.getElem?_eq_getElem ai];exact List.getElem_mem ai
   have hk:=hb _ jW
   have df:=Lg (d:=[]) ai vH i2
   have l6:a.getD i []≠b.getD i []→a≠b:=fun q e=>q (by rw[e])
   generalize hx:a.getD i []=x at hk df l6
   generalize hy:b.getD i []=y at df l6
   refine gg (k:= ?_)
   (refine ax (k:= ?_))
   refine bz (p:=0) aj hm [0,0,3,7,0,0,48,112,255,511] [⟨0,false,false,[]⟩,⟨1,false,false,[]⟩,⟨2,true,false,[20,21,22,23,24,25,26]⟩,⟨3,true,false,[21,22,23,24,25,26]⟩,⟨4,false,false,[]⟩,⟨5,false,false,[]⟩,⟨6,true,false,[17,18,19,20,24,25,26]⟩,⟨7,true,false,[17,18,19,20,25,26]⟩,⟨8,true,true,[26]⟩,⟨9,false,false,[]⟩] (by kernel_rfl) ?_
   refine gg (k:= ?_)
   (try simp only[Int.toNat_natCast,hx,hy])
   refine ae (eh z z' x y hk) Tryz.call19 0 [] [] [] ?_
   by_cases cC:x=y
   ·rw[decide_eq_true cC]
    refine gg (k:= ?_)
    refine aM (i+1) ⟨ai,df cC⟩ (by show a.length - (i+1)<a.length - i;omega) ?_ ?_
    ·exact no_implicit_lambda%ten
    ·exact no_implicit_lambda%az
   ·rw[decide_eq_false cC]
    refine gg (k:= ?_)
    rw[decide_eq_false (l6 cC)]
    exact⟨_,rfl,rfl,trivial⟩
  ·refine gg (k:= ?_)
   have hi:i=a.length:=by have:=of_decide_eq_false h;omega
   subst hi
   rw[List.take_length,lU,List.take_length] at i2
   rw[decide_eq_true i2]
   exact⟨_,rfl,rfl,trivial⟩
end Go.Proofs.YtpbpiehcchannaaGreatDoor
namespace Go.Proofs.YtpbpiehcchannaaGreatDoor
open Go.RowKit
set_option linter.unusedVariables false
set_option linter.unusedSimpArgs false
set_option maxRecDepth 100000
set_option maxHeartbeats 1500000
def n3(s k:Int)(l:List dg):Bool:=decide (80<l.length∨8<s∨1024<k)||decide (131072<ej l)
theorem Lh(z:Nat)(s k:Int)(l:List dg):Spec Tryz.prog 12 [.val (.int .i64 s),.val (.int .i64 k),.sl z 5 (aN z) lj l] [] (ak (.val (.bool (n3 s k l))) [] []):=by
 refine aq aj Tryz.func12 rfl Tryz.ntmps12 Tryz.results12 ?_
 refine gg (k:= ?_)
 by_cases hn:80<l.length∨8<s∨1024<k
 ·have hv:n3 s k l=true:=by
    unfold n3
    rw[decide_eq_true hn]
    rfl
  rw[hv]
  refine gg (k:= ?_)
  exact⟨_,rfl,rfl,trivial⟩
 have sT:n3 s k l=decide (131072<ej l):=by unfold n3;rw[decide_eq_false hn,Bool.false_or]
 rw[sT]
 clear sT
 refine gg (k:= ?_)
 (refine ax (k:= ?_))
 conv=>whnf
 refine bh (fun i:Nat=>i≤l.length∧ej (l.take i)≤131072) (fun i=>l.length - i) 0 [6,7,8,20,21,22,23,24,25,26,27,28,29,30,31,32,33,34,35,36,37,38,39,40,41,42,43,44] (fun i=>[(6,.val (.bool false)),(7,.val (.int .i64 (ej (l.take i)))),(8,.val (.int .i64 i))]) (fun i=>[]) 0 ⟨Nat.zero_le _,by simp[ej]⟩ ?_ ?_ ?_
 ·exact no_implicit_lambda%ten
 ·exact no_implicit_lambda%az
 ·rintro i v ⟨i1,i2⟩
  have i0:=vI (l.take i)
  refine bc (k:= ?_)
  refine gg (k:= ?_)
  refine⟨fun h=> ?_,fun h=> ?_⟩
  ·have ai:i<l.length:=by have:=of_decide_eq_true h;omega
   have hs:=Li ai
   have xf:=vI (l.take (i+1))
   refine gg (k:= ?_)
   (refine ax (k:= ?_))
   refine bz (p:=0) aj hm [0,0,0,6,14,30,62,126,255,0,0,1536,3584,7680,15872,32256,65535,131071] [⟨0,false,false,[]⟩,⟨1,false,false,[]⟩,⟨2,false,false,[]⟩,⟨3,true,false,[26,30,31,32,33,34,35,36,37,38,39,40,41,42,7]⟩,⟨4,true,false,[26,31,32,33,34,35,36,37,38,39,40,41,42,7]⟩,⟨5,true,false,[26,32,33,34,35,36,37,38,39,40,41,42,7]⟩,⟨6,true,false,[26,33,34,35,36,37,38,39,40,41,42,7]⟩,⟨7,false,false,[]⟩,⟨8,false,false,[]⟩,⟨9,false,false,[]⟩,⟨10,false,false,[]⟩,⟨11,true,false,[26,27,28,29,30,31,32,33,34,38,39,40,41,42,7]⟩,⟨12,true,false,[26,27,28,29,30,31,32,33,34,39,40,41,42,7]⟩,⟨13,true,false,[26,27,28,29,30,31,32,33,34,40,41,42,7]⟩,⟨14,true,false,[26,27,28,29,30,31,32,33,34,41,42,7]⟩,⟨15,false,false,[]⟩,⟨16,false,false,[]⟩,⟨17,false,false,[]⟩] (by kernel_rfl) ?_
   refine gg (k:= ?_)
   simp only[Bool.false_eq_true,if_false,Int.toNat_natCast]
   refine gg (k:= ?_)
   simp only[Bool.false_eq_true,if_false,Int.toNat_natCast]
   refine gg (k:= ?_)
   have hle:=Lj l (i+1)
   have Lk:ej (l.take i)+min ((l.getD i lj).key.length:Int) 262144+min ((l.getD i lj).val.length:Int) 262144=ej (l.take (i+1)):=by rw[hs];omega
   rw[Lk]
   refine⟨fun h=> ?_,fun h=> ?_⟩
   ·have hb:=of_decide_eq_true h
    refine gg (k:= ?_)
    rw[decide_eq_true (by omega:131072<ej l)]
    exact⟨_,rfl,rfl,trivial⟩
   ·have hb:=of_decide_eq_false h
    refine gg (k:= ?_)
    refine aM (i+1) ⟨ai,by omega⟩ (by show l.length - (i+1)<l.length - i;omega) ?_ ?_
    ·exact no_implicit_lambda%ten
    ·exact no_implicit_lambda%az
  ·refine gg (k:= ?_)
   have hi:i=l.length:=by have:=of_decide_eq_false h;omega
   subst hi
   rw[List.take_length] at i2
   rw[decide_eq_false (by omega:¬131072<ej l)]
   exact⟨_,rfl,rfl,trivial⟩
theorem ek(z:Nat)(m:List UInt8)(hl:m.length≤140737488355328):Spec Tryz.prog 23 [.bs z m] [] (ak (.own 3 2 1 0 m.length) [] [(3,⟨2,.bytes m⟩)]):=by
 refine aq aj Tryz.func23 rfl Tryz.ntmps23 Tryz.results23 ?_
 refine gg (k:= ?_)
 conv=>whnf
 refine⟨m,?_⟩
 conv=>whnf
 refine And.intro ?_ ?_
 ·refine⟨rfl,trivial,rfl,rfl,rfl,rfl,rfl,rfl,?_,by decide⟩
  simp only[List.map_nil,List.length_nil]
  omega
 refine gg (k:= ?_)
 refine⟨_,?_,rfl,rfl,trivial⟩
 simp only[jw,List.map_nil,List.length_nil,Nat.zero_add]
theorem fc(z:Nat)(m:List UInt8)(hl:m.length≤140737488355328):Spec Tryz.prog 23 [.bs z m] [] (ak (.bs 0 m) [] []):=
 br (ek z m hl) (by simp[ef]) (AF.own rfl rfl) trivial
end Go.Proofs.YtpbpiehcchannaaGreatDoor
namespace Go.Proofs.YtpbpiehcchannaaGreatDoor
open Go.RowKit
set_option linter.unusedVariables false
set_option linter.unusedSimpArgs false
set_option maxRecDepth 100000
set_option maxHeartbeats 1500000
end Go.Proofs.YtpbpiehcchannaaGreatDoor
