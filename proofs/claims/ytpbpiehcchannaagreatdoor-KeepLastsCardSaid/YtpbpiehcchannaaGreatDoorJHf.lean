/- Walks of lintelref09: the map. The document's map as sorted records, and a store beside it: the plain law. Walks of lintelref09: the map, as sorted records. Conditions: the premises of each law. -/
import Derived.Test.YtpbpiehcchannaaGreatDoorJHa
import Derived.Test.YtpbpiehcchannaaGreatDoorJHv
namespace Go.Proofs.YtpbpiehcchannaaGreatDoor
set_option linter.unusedVariables false
set_option linter.unusedSimpArgs false
set_option maxRecDepth 100000
set_option maxHeartbeats 1500000
open Go.RowKit
def cV:List (List UInt8)→List UInt8→Nat
 | [],_=>0
 | k::r,key=>if k=key then 0 else 1+cV r key
theorem HO:∀(ks:List (List UInt8))(key:List UInt8),cV ks key≤ks.length
 | [],_=>Nat.le_refl _
 | k::r,key=>by
  unfold cV
  have:=HO r key
  rw[List.length_cons]
  split<;>omega
theorem HP:∀(ks:List (List UInt8))(key:List UInt8)(i:Nat),i≤cV ks key→i<ks.length→ks.getD i []=key→cV ks key=i
 | [],_,i,_,h,_=>absurd h (Nat.not_lt_zero _)
 | k::r,key,0,h1,h2,h3=>by
  obtain rfl:k=key:=by simpa using h3
  simp[cV]
 | k::r,key,i+1,h1,h2,h3=>by
  unfold cV at h1⊢
  split at h1
  ·omega
  ·rename_i hk
   rw[if_neg hk,HP r key i (by omega) (by simpa using h2) (by simpa using h3)]
   omega
theorem HQ:∀(ks:List (List UInt8))(key:List UInt8)(i:Nat),i≤cV ks key→i<ks.length→ks.getD i []≠key→i+1≤cV ks key
 | [],_,i,_,h,_=>absurd h (Nat.not_lt_zero _)
 | k::r,key,0,h1,h2,h3=>by
  have hk:k≠key:=by simpa using h3
  unfold cV
  rw[if_neg hk];omega
 | k::r,key,i+1,h1,h2,h3=>by
  unfold cV at h1⊢
  split at h1
  ·omega
  ·rename_i hk
   rw[if_neg hk]
   have:=HQ r key i (by omega) (by simpa using h2) (by simpa using h3)
   omega
def kE(ks:List (List UInt8))(key:List UInt8):Int:=if cV ks key<ks.length then(cV ks key:Int) else -1
theorem CS(a b:Nat)(ha:a≤140737488355328)(hb:b≤140737488355328):Spec Tryz.prog 76 [.val (.int .i64 (a:Int)),.val (.int .i64 (b:Int))] [] (ak (.val (.int .i64 ((12+a+b:Nat):Int))) [] []):=by
 refine ax ai Tryz.func76 rfl Tryz.ntmps76 Tryz.results76 ?_
 refine gg ?_
 rw[show(12:Int)+(a:Int)+(b:Int)=((12+a+b:Nat):Int) by omega]
 exact⟨_,rfl,rfl,trivial⟩
theorem CT(z:Nat)(ks vs:List (List UInt8))(key:List UInt8)(room:Int)(hl:ks.length≤4294967296)(vm:Nat):Spec Tryz.prog 29 [.ref 0 vm 3 0 0,.bs z key] [⟨vm,.obj [.sl 0 1 (fun k:List UInt8=>[AV.bs 0 k]) [] ks,.sl 0 1 (fun k:List UInt8=>[AV.bs 0 k]) [] vs,.val (.int .i64 room)]⟩] (ak (.val (.int .i64 (kE ks key))) [⟨vm,.obj [.sl 0 1 (fun k:List UInt8=>[AV.bs 0 k]) [] ks,.sl 0 1 (fun k:List UInt8=>[AV.bs 0 k]) [] vs,.val (.int .i64 room)]⟩] []):=by
 refine ax ai Tryz.func29 rfl Tryz.ntmps29 Tryz.results29 ?_
 refine gg ?_
 (refine aH ?_)
 conv=>whnf
 refine cE (fun i:Nat=>i≤cV ks key) (fun i=>ks.length - i) 1 [4,5,6,7,8,9,10,11,12,13,14,15,16,17,18,19,20,21,22,23,24,25,26] (fun i=>[(5,.val (.int .i64 (i:Int)))]) (fun i=>[]) 0 (Nat.zero_le _) ?_ ?_ ?_
 ·exact no_implicit_lambda%ten
 ·exact no_implicit_lambda%b6
 ·rintro i v i1
  have i2:=HO ks key
  refine cF ?_
  refine gg ?_
  refine⟨fun h=> ?_,fun h=> ?_⟩
  ·have ah:i<ks.length:=by have:=of_decide_eq_true h;omega
   refine gg ?_
   refine bL (p:=1) ai hm [0,1,3,7,0,31,63,127,0,256,1023] [⟨0,false,false,[]⟩,⟨1,true,false,[17,18,19,20,21,22,23,24,25]⟩,⟨2,true,false,[18,19,20,21,22,23,24,25]⟩,⟨3,true,false,[19,20,21,22,23,24,25]⟩,⟨4,false,false,[]⟩,⟨5,true,false,[21,22,23,24,25]⟩,⟨6,true,false,[22,23,24,25]⟩,⟨7,true,false,[23,24,25]⟩,⟨8,false,false,[]⟩,⟨9,true,false,[15,16,17,18,19,20,21,22,25]⟩,⟨10,false,false,[]⟩] (by kernel_rfl) ?_
   refine gg ?_
   simp only[Int.toNat_natCast,Nat.zero_add]
   refine gg ?_
   rw[G4]
   refine⟨fun h'=> ?_,fun h'=> ?_⟩
   ·have hk:=HP ks key i i1 ah (of_decide_eq_true h')
    have hv:kE ks key=(i:Int):=by unfold kE;rw[hk,if_pos ah]
    refine gg ?_
    rw[hv]
    exact⟨_,rfl,rfl,trivial⟩
   ·have hk:=HQ ks key i i1 ah (of_decide_eq_false h')
    refine gg ?_
    exact bk (i+1) hk (by show ks.length - (i+1)<ks.length - i;omega)
  ·have hi:i=ks.length:=by have:=of_decide_eq_false h;omega
   have hv:kE ks key= -1:=by unfold kE;rw[if_neg (by omega)]
   refine gg ?_
   rw[hv]
   exact⟨_,rfl,rfl,trivial⟩
def jl:List (List UInt8)→List (List UInt8)→Nat→Nat
 | ks,vs,0=>0
 | ks,vs,n+1=>jl ks vs n+(12+(ks.getD n []).length+(vs.getD n []).length)
theorem CU{ks vs:List (List UInt8)}(hb:(∀k∈ks,k.length≤4294967296)∧(∀v∈vs,v.length≤4294967296))(hv:vs.length=ks.length):∀n,n≤ks.length→jl ks vs n≤n*8589934604:=by
 intro n
 induction n with
 | zero=>intro _;simp[jl]
 | succ n ih=>
  intro hn
  have h1:=ih (by omega)
  have h2:=hb.1 (ks.getD n []) (by rw[List.getD_eq_getElem?_getD,List.getElem?_eq_getElem (by omega)];exact List.getElem_mem _)
  have h3:=hb.2 (vs.getD n []) (by rw[List.getD_eq_getElem?_getD,List.getElem?_eq_getElem (by omega)];exact List.getElem_mem _)
  unfold jl
  omega
theorem CV(ks vs:List (List UInt8))(room:Int)(hl:ks.length≤4096)(hv:vs.length=ks.length)(hb:(∀k∈ks,k.length≤4294967296)∧(∀v∈vs,v.length≤4294967296))(vm:Nat):Spec Tryz.prog 75 [.ref 0 vm 3 0 0] [⟨vm,.obj [.sl 0 1 (fun k:List UInt8=>[AV.bs 0 k]) [] ks,.sl 0 1 (fun k:List UInt8=>[AV.bs 0 k]) [] vs,.val (.int .i64 room)]⟩] (ak (.val (.int .i64 (jl ks vs ks.length:Int))) [⟨vm,.obj [.sl 0 1 (fun k:List UInt8=>[AV.bs 0 k]) [] ks,.sl 0 1 (fun k:List UInt8=>[AV.bs 0 k]) [] vs,.val (.int .i64 room)]⟩] []):=by
 have hu:=CU hb hv
 refine ax ai Tryz.func75 rfl Tryz.ntmps75 Tryz.results75 ?_
 refine gg ?_
 (refine aH ?_)
 conv=>whnf
 refine cE (fun i:Nat=>i≤ks.length) (fun i=>ks.length - i) 1 [3,4,5,6,7,8,9,10,11,12,13,14,15,16,17,18,19,20,21,22,23,24,25,26,27,28,29,30,31,32] (fun i=>[(3,.val (.int .i64 (jl ks vs i:Int))),(4,.val (.int .i64 (i:Int)))]) (fun i=>[]) 0 (Nat.zero_le _) ?_ ?_ ?_
 ·exact no_implicit_lambda%ten
 ·exact no_implicit_lambda%b6
 ·rintro i v i1
  have Va:=hu i i1
  refine cF ?_
  refine gg ?_
  refine⟨fun h=> ?_,fun h=> ?_⟩
  ·have ah:i<ks.length:=by have:=of_decide_eq_true h;omega
   have h2:=hb.1 (ks.getD i []) (by rw[List.getD_eq_getElem?_getD,List.getElem?_eq_getElem (by omega)];exact List.getElem_mem _)
   have h3:=hb.2 (vs.getD i []) (by rw[List.getD_eq_getElem?_getD,List.getElem?_eq_getElem (by omega)];exact List.getElem_mem _)
   refine gg ?_
   refine bL (p:=1) ai hm [0,0,2,6,14,0,62,126,254,0,512,1536,3584,0,15872,32256,65024,131070,262143,524287] [⟨0,false,false,[]⟩,⟨1,false,false,[]⟩,⟨2,true,false,[14,17,18,19,20,21,22,23,24,25,26,27,28,29,30,31,32,3]⟩,⟨3,true,false,[14,18,19,20,21,22,23,24,25,26,27,28,29,30,31,32,3]⟩,⟨4,true,false,[14,19,20,21,22,23,24,25,26,27,28,29,30,31,32,3]⟩,⟨5,false,false,[]⟩,⟨6,true,false,[14,21,22,23,24,25,26,27,28,29,30,31,32,3]⟩,⟨7,true,false,[14,22,23,24,25,26,27,28,29,30,31,32,3]⟩,⟨8,true,false,[14,23,24,25,26,27,28,29,30,31,32,3]⟩,⟨9,false,false,[]⟩,⟨10,true,false,[14,15,16,17,18,19,20,21,22,25,26,27,28,29,30,31,32,3]⟩,⟨11,true,false,[14,15,16,17,18,19,20,21,22,26,27,28,29,30,31,32,3]⟩,⟨12,true,false,[14,15,16,17,18,19,20,21,22,27,28,29,30,31,32,3]⟩,⟨13,false,false,[]⟩,⟨14,true,false,[14,15,16,17,18,19,20,21,22,29,30,31,32,3]⟩,⟨15,true,false,[14,15,16,17,18,19,20,21,22,30,31,32,3]⟩,⟨16,true,false,[14,15,16,17,18,19,20,21,22,31,32,3]⟩,⟨17,true,true,[14,32,3]⟩,⟨18,false,false,[]⟩,⟨19,false,false,[]⟩] (by kernel_rfl) ?_
   refine gg ?_
   simp only[Int.toNat_natCast]
   refine af (CS (ks.getD i []).length (vs.getD i []).length (by omega) (by omega)) Tryz.call76 0 [] [] [] ?_
   refine gg ?_
   rw[show(jl ks vs i:Int)+((12+(ks.getD i []).length+(vs.getD i []).length:Nat):Int)=(jl ks vs (i+1):Int) by rw[jl];omega]
   exact bk (i+1) ah (by show ks.length - (i+1)<ks.length - i;omega)
  ·obtain rfl:i=ks.length:=by have:=of_decide_eq_false h;omega
   refine gg ?_
   exact⟨_,rfl,rfl,trivial⟩
theorem Pc(ks vs:List (List UInt8))(room:Int)(hl:ks.length≤4096)(hv:vs.length≤4096)(vm:Nat):Spec Tryz.prog 20 [.ref 0 vm 3 0 0] [⟨vm,.obj [.sl 0 1 (fun k:List UInt8=>[AV.bs 0 k]) [] ks,.sl 0 1 (fun k:List UInt8=>[AV.bs 0 k]) [] vs,.val (.int .i64 room)]⟩] (ak (.ref 21 1 3 0 0) [⟨vm,.obj [.sl 0 1 (fun k:List UInt8=>[AV.bs 0 k]) [] ks,.sl 0 1 (fun k:List UInt8=>[AV.bs 0 k]) [] vs,.val (.int .i64 room)]⟩] [(21,⟨1,.obj [.own 4 2 1 0 ks.length,.own 10 2 1 0 vs.length,.val (.int .i64 room)]⟩),(4,⟨2,.row 1 (fun k:List UInt8=>[AV.bs 0 k]) [] ks⟩),(10,⟨2,.row 1 (fun k:List UInt8=>[AV.bs 0 k]) [] vs⟩)]):=by
 refine ax ai Tryz.func20 rfl Tryz.ntmps20 Tryz.results20 ?_
 refine gg ?_
 refine bL (p:=1) ai hm [0,0,2,6,14,31,0,0,128,384,896,2047,0,4096,12288,28672,65535,131071,262143] [⟨0,false,false,[3]⟩,⟨1,false,false,[]⟩,⟨2,false,false,[10000]⟩,⟨3,false,false,[10000]⟩,⟨4,false,false,[10000]⟩,⟨5,true,true,[10000,9,10,11,12,13,14,15,16,17,18,19,20,2]⟩,⟨6,false,false,[9]⟩,⟨7,false,false,[]⟩,⟨8,false,false,[10000]⟩,⟨9,false,false,[10000]⟩,⟨10,false,false,[10000]⟩,⟨11,true,true,[10000,15,16,17,18,19,20,2]⟩,⟨12,false,false,[]⟩,⟨13,false,false,[10000]⟩,⟨14,false,false,[10000]⟩,⟨15,false,false,[10000]⟩,⟨16,true,false,[20,2]⟩,⟨17,true,false,[2]⟩,⟨18,false,false,[]⟩] (by kernel_rfl) ?_
 refine gg ?_
 (
 refine⟨List UInt8,(fun k:List UInt8=>[AV.bs 0 k]),[],ks,?_⟩
 conv=>whnf
 refine And.intro ⟨rfl,fun x hx=>⟨trivial,trivial⟩,rfl,rfl,rfl,rfl,.inr rfl,rfl,by show _*24≤_;(try simp only[List.length_append]);omega,by decide⟩ ?_)
 refine gg ?_
 (
 refine⟨List UInt8,(fun k:List UInt8=>[AV.bs 0 k]),[],vs,?_⟩
 conv=>whnf
 refine And.intro ⟨rfl,fun x hx=>⟨trivial,trivial⟩,rfl,rfl,rfl,rfl,.inr rfl,rfl,by show _*24≤_;(try simp only[List.length_append]);omega,by decide⟩ ?_)
 refine gg ?_
 exact⟨_,rfl,rfl,rfl,rfl,rfl,trivial⟩
theorem sX{fz:List (Nat×J)}{r ver n:Nat}{ks:List (List UInt8)}(he:getM fz r=some ⟨ver,.row 1 (fun k:List UInt8=>[AV.bs 0 k]) [] ks⟩)(hn:n=ks.length):AF fz (.own r ver 1 0 n) (.sl 0 1 (fun k:List UInt8=>[AV.bs 0 k]) [] ks):=
 AF.yo he hn hn.symm fun i x y hx hy=>by
  rw[hx] at hy
  obtain rfl:=Option.some.inj hy
  exact aZ.cons AF.same aZ.nil
theorem Pd(ks vs:List (List UInt8))(room:Int)(hl:ks.length≤4096)(hv:vs.length≤4096)(vm:Nat):Spec Tryz.prog 20 [.ref 0 vm 3 0 0] [⟨vm,.obj [.sl 0 1 (fun k:List UInt8=>[AV.bs 0 k]) [] ks,.sl 0 1 (fun k:List UInt8=>[AV.bs 0 k]) [] vs,.val (.int .i64 room)]⟩] (ak (.ref 21 1 3 0 0) [⟨vm,.obj [.sl 0 1 (fun k:List UInt8=>[AV.bs 0 k]) [] ks,.sl 0 1 (fun k:List UInt8=>[AV.bs 0 k]) [] vs,.val (.int .i64 room)]⟩] [(21,⟨1,.obj [.sl 0 1 (fun k:List UInt8=>[AV.bs 0 k]) [] ks,.sl 0 1 (fun k:List UInt8=>[AV.bs 0 k]) [] vs,.val (.int .i64 room)]⟩)]):=
 OI [(4,⟨2,.row 1 (fun k:List UInt8=>[AV.bs 0 k]) [] ks⟩),(10,⟨2,.row 1 (fun k:List UInt8=>[AV.bs 0 k]) [] vs⟩)] _ (Pc ks vs room hl hv vm) (by simp[eM]) ⟨rfl,rfl,trivial⟩ ⟨⟨_,rfl,rfl,BF.obj rfl (aZ.cons (sX rfl rfl) (aZ.cons (sX rfl rfl) (aZ.cons AF.same aZ.nil))),rfl,rfl⟩,trivial⟩ AF.same ⟨rfl,BF.same,trivial⟩
theorem Pe(z:Nat)(ks vs:List (List UInt8))(key:List UInt8)(room:Int)(hl:ks.length≤4096)(hk:¬cV ks key<ks.length)(vm:Nat):Spec Tryz.prog 24 [.ref 0 vm 3 0 0,.bs z key] [⟨vm,.obj [.sl 0 1 (fun k:List UInt8=>[AV.bs 0 k]) [] ks,.sl 0 1 (fun k:List UInt8=>[AV.bs 0 k]) [] vs,.val (.int .i64 room)]⟩] (ak (.val (.int .i64 3)) [⟨vm,.obj [.sl 0 1 (fun k:List UInt8=>[AV.bs 0 k]) [] ks,.sl 0 1 (fun k:List UInt8=>[AV.bs 0 k]) [] vs,.val (.int .i64 room)]⟩] []):=by
 have cK:=CT z ks vs key room (by omega) vm
 unfold kE at cK
 rw[if_neg hk] at cK
 refine ax ai Tryz.func24 rfl Tryz.ntmps24 Tryz.results24 ?_
 refine gg ?_
 refine af (cK) Tryz.call29 1 [0] [0] [] ?_
 refine gg ?_
 exact⟨_,rfl,rfl,trivial⟩
theorem Pf(z:Nat)(ks vs:List (List UInt8))(key:List UInt8)(room:Int)(hl:ks.length≤4096)(hv:vs.length=ks.length)(p:Nat)(hp:cV ks key=p)(hk:p<ks.length)(vm:Nat):Spec Tryz.prog 24 [.ref 0 vm 3 0 0,.bs z key] [⟨vm,.obj [.sl 0 1 (fun k:List UInt8=>[AV.bs 0 k]) [] ks,.sl 0 1 (fun k:List UInt8=>[AV.bs 0 k]) [] vs,.val (.int .i64 room)]⟩] (ak (.val (.int .i64 0)) [⟨vm,.obj [.own 14 3 1 0 (ks.take p++ks.drop (p+1)).length,.own 22 3 1 0 (vs.take p++vs.drop (p+1)).length,.val (.int .i64 room)]⟩] [(14,⟨3,.row 1 (fun k:List UInt8=>[AV.bs 0 k]) [] (ks.take p++ks.drop (p+1))⟩),(22,⟨3,.row 1 (fun k:List UInt8=>[AV.bs 0 k]) [] (vs.take p++vs.drop (p+1))⟩)]):=by
 have cK:=CT z ks vs key room (by omega) vm
 unfold kE at cK
 rw[hp,if_pos hk] at cK
 have k1:(ks.take p).length=p:=by rw[List.length_take];omega
 have k2:(vs.take p).length=p:=by rw[List.length_take];omega
 have k3:(ks.drop (p+1)).length=ks.length - (p+1):=List.length_drop ..
 have k4:(vs.drop (p+1)).length=ks.length - (p+1):=by rw[List.length_drop,hv]
 refine ax ai Tryz.func24 rfl Tryz.ntmps24 Tryz.results24 ?_
 refine gg ?_
 refine af (cK) Tryz.call29 1 [0] [0] [] ?_
 refine gg ?_
 (
 refine⟨List UInt8,(fun k:List UInt8=>[AV.bs 0 k]),[],(ks.take p),?_⟩
 conv=>whnf
 refine And.intro ⟨rfl,fun x hx=>⟨trivial,trivial⟩,rfl,rfl,rfl,rfl,.inr rfl,rfl,by show _*24≤_;(try simp only[List.length_append]);omega,by decide⟩ ?_)
 refine gg ?_
 (
 refine⟨List UInt8,(fun k:List UInt8=>[AV.bs 0 k]),[],(vs.take p),?_⟩
 conv=>whnf
 refine And.intro ⟨rfl,fun x hx=>⟨trivial,trivial⟩,rfl,rfl,rfl,rfl,.inr rfl,rfl,by show _*24≤_;(try simp only[List.length_append]);omega,by decide⟩ ?_)
 refine gg ?_
 (
 refine⟨List UInt8,(fun k:List UInt8=>[AV.bs 0 k]),[],(ks.take p++ks.drop (p+1)),?_⟩
 conv=>whnf
 refine And.intro ⟨rfl,fun x hx=>⟨trivial,trivial⟩,rfl,rfl,rfl,rfl,.inr rfl,(by rw[show((p:Int)+1).toNat=p+1 by omega,Int.toNat_natCast,List.take_length,List.map_append]),by show _*24≤_;(try simp only[List.length_append]);omega,by decide⟩ ?_)
 refine gg ?_
 (
 refine⟨List UInt8,(fun k:List UInt8=>[AV.bs 0 k]),[],(vs.take p++vs.drop (p+1)),?_⟩
 conv=>whnf
 refine And.intro ⟨rfl,fun x hx=>⟨trivial,trivial⟩,rfl,rfl,rfl,rfl,.inr rfl,(by rw[show((p:Int)+1).toNat=p+1 by omega,Int.toNat_natCast,List.take_length,List.map_append]),by show _*24≤_;(try simp only[List.length_append]);omega,by decide⟩ ?_)
 refine gg ?_
 exact⟨_,rfl,rfl,rfl,rfl,trivial⟩
def jm(l:List (List UInt8))(p:Nat):List (List UInt8):=l.take p++l.drop (p+1)
theorem HS{l:List (List UInt8)}{p:Nat}(h:p<l.length):(jm l p).length=l.length - 1:=by
 unfold jm
 rw[List.length_append,List.length_take,List.length_drop];omega
def eW(ks vs:List (List UInt8))(key:List UInt8):List (List UInt8)×List (List UInt8):=if cV ks key<ks.length then(jm ks (cV ks key),jm vs (cV ks key)) else(ks,vs)
theorem HT(z:Nat)(ks vs:List (List UInt8))(key:List UInt8)(room:Int)(hl:ks.length≤4096)(hv:vs.length=ks.length)(vm:Nat):Spec Tryz.prog 24 [.ref 0 vm 3 0 0,.bs z key] [⟨vm,.obj [.sl 0 1 (fun k:List UInt8=>[AV.bs 0 k]) [] ks,.sl 0 1 (fun k:List UInt8=>[AV.bs 0 k]) [] vs,.val (.int .i64 room)]⟩] (ak (.val (.int .i64 (if cV ks key<ks.length then 0 else 3))) [⟨vm,.obj [.sl 0 1 (fun k:List UInt8=>[AV.bs 0 k]) [] (eW ks vs key).1,.sl 0 1 (fun k:List UInt8=>[AV.bs 0 k]) [] (eW ks vs key).2,.val (.int .i64 room)]⟩] []):=by
 by_cases h:cV ks key<ks.length
 ·rw[show eW ks vs key=(jm ks (cV ks key),jm vs (cV ks key)) from if_pos h,if_pos h]
  exact ix (Pf z ks vs key room hl hv _ rfl h vm) (by simp[eM]) AF.same ⟨rfl,BF.obj rfl (aZ.cons (sX rfl rfl) (aZ.cons (sX rfl rfl) (aZ.cons AF.same aZ.nil))),trivial⟩
 ·rw[show eW ks vs key=(ks,vs) from if_neg h,if_neg h]
  exact Pe z ks vs key room hl h vm
def cO:List (List UInt8)→List UInt8→Nat
 | [],_=>0
 | k::r,key=>if Op.bytesLess k key=true then 1+cO r key else 0
theorem HU:∀(ks:List (List UInt8))(key:List UInt8),cO ks key≤ks.length
 | [],_=>Nat.le_refl _
 | k::r,key=>by
  unfold cO
  have:=HU r key
  rw[List.length_cons]
  split<;>omega
theorem HV:∀(ks:List (List UInt8))(key:List UInt8)(i:Nat),i≤cO ks key→i<ks.length→Op.bytesLess (ks.getD i []) key=true→i+1≤cO ks key
 | [],_,i,_,h,_=>absurd h (Nat.not_lt_zero _)
 | k::r,key,0,h1,h2,h3=>by
  have hk:Op.bytesLess k key=true:=by simpa using h3
  unfold cO
  rw[if_pos hk];omega
 | k::r,key,i+1,h1,h2,h3=>by
  unfold cO at h1⊢
  split at h1
  ·rename_i hk
   rw[if_pos hk]
   have:=HV r key i (by omega) (by simpa using h2) (by simpa using h3)
   omega
  ·omega
theorem HW:∀(ks:List (List UInt8))(key:List UInt8)(i:Nat),i≤cO ks key→i<ks.length→Op.bytesLess (ks.getD i []) key=false→cO ks key=i
 | [],_,i,_,h,_=>absurd h (Nat.not_lt_zero _)
 | k::r,key,0,h1,h2,h3=>by
  have hk:Op.bytesLess k key=false:=by simpa using h3
  unfold cO
  rw[if_neg (by rw[hk];simp)]
 | k::r,key,i+1,h1,h2,h3=>by
  unfold cO at h1⊢
  split at h1
  ·rename_i hk
   rw[if_pos hk,HW r key i (by omega) (by simpa using h2) (by simpa using h3)]
   omega
  ·omega
def putAt(l:List (List UInt8))(p:Nat)(x:List UInt8):List (List UInt8):=l.take p++[x]++l.drop p
theorem yw{l:List (List UInt8)}{p:Nat}{x:List UInt8}(h:p≤l.length):(putAt l p x).length=l.length+1:=by
 unfold putAt
 rw[List.length_append,List.length_append,List.length_take,List.length_drop,List.length_singleton];omega
theorem yx(f:List UInt8→List AV)(l:List (List UInt8))(i:Nat)(x:List UInt8):(l.take i++[x]).map f++(List.drop (i:Int).toNat (l.take (l.length:Int).toNat)).map f=(putAt l i x).map f:=by
 unfold putAt
 rw[Int.toNat_natCast,Int.toNat_natCast,List.take_length,←List.map_append]
def lf(ks vs:List (List UInt8))(room:Int)(key val:List UInt8):Int×List (List UInt8)×List (List UInt8):=
 if key.length<1∨255<key.length∨65536<val.length then(1,ks,vs)
 else if room< (jl ks vs ks.length+(12+key.length+val.length):Nat) then(5,ks,vs)
 else(0,putAt (eW ks vs key).1 (cO (eW ks vs key).1 key) key,putAt (eW ks vs key).2 (cO (eW ks vs key).1 key) val)
theorem Pg{ks vs:List (List UInt8)}{key:List UInt8}(hv:vs.length=ks.length):(eW ks vs key).2.length=(eW ks vs key).1.length∧(eW ks vs key).1.length≤ks.length:=by
 by_cases h:cV ks key<ks.length
 ·rw[show eW ks vs key=(jm ks (cV ks key),jm vs (cV ks key)) from if_pos h]
  have h1:=HS h
  have h2:=HS (l:=vs) (p:=cV ks key) (by omega)
  simp only
  omega
 ·rw[show eW ks vs key=(ks,vs) from if_neg h]
  exact⟨hv,Nat.le_refl _⟩
theorem Ph{id:Nat}{Q:Ex→St→Prop}{s:St}(h:Q .normal s):kR id Q .normal s:=h
theorem Pj (ks vs : List (List UInt8)) (key val : List UInt8) (room : Int) (hl : ks.length ≤ 4096) (hv : vs.length = ks.length) (hb : (∀ k ∈ ks, k.length ≤ 4294967296) ∧ (∀ v ∈ vs, v.length ≤ 4294967296)) (hk : ¬ (key.length < 1 ∨ 255 < key.length ∨ 65536 < val.length)) (hr : ¬ room < (jl ks vs ks.length + (12 + key.length + val.length) : Nat)) (p : Nat) (hp : cO (eW ks vs key).1 key = p) (vm : Nat) : Spec Tryz.prog 21 [.ref 0 vm 3 0 0, .bs 0 key, .bs 0 val] [⟨vm, .obj [.sl 0 1 (fun k : List UInt8 => [AV.bs 0 k]) [] ks, .sl 0 1 (fun k : List UInt8 => [AV.bs 0 k]) [] vs, .val (.int .i64 room)]⟩]
   (ak (.val (.int .i64 0)) [⟨vm,.obj [.own 62 4 1 0 (putAt (eW ks vs key).1 p key).length,.own 74 4 1 0 (putAt (eW ks vs key).2 p val).length,.val (.int .i64 room)]⟩] [(62,⟨4,.row 1 (fun k:List UInt8=>[AV.bs 0 k]) [] (putAt (eW ks vs key).1 p key)⟩),(74,⟨4,.row 1 (fun k:List UInt8=>[AV.bs 0 k]) [] (putAt (eW ks vs key).2 p val)⟩)]):=by
 have nF:=CV ks vs room hl hv hb vm
 have pH:=HT 0 ks vs key room hl hv vm
 have HX:=Pg (key:=key) hv
 have xr:=CU hb hv ks.length (Nat.le_refl _)
 have c8:=HU (eW ks vs key).1 key
 generalize eW ks vs key=D at pH HX hp c8⊢
 obtain⟨K,V⟩:=D
 simp only at pH HX hp c8⊢
 subst hp
 have hs:∀l,(strOf l).data.toList=l:=fun l=>by simp[strOf]
 refine ax ai Tryz.func21 rfl Tryz.ntmps21 Tryz.results21 ?_
 refine gg ?_
 refine bL (p:=1) ai hm [0,1,0,4,0,16,63,127,0,256,768,1792,4095] [⟨0,false,false,[]⟩,⟨2,false,false,[]⟩,⟨3,true,false,[23,24,27,28,29,30,31,32,33,34,35]⟩,⟨4,false,false,[]⟩,⟨5,true,false,[23,24,25,26,29,30,31,32,33,34,35]⟩,⟨8,false,false,[]⟩,⟨9,true,false,[23,24,25,26,27,28,29,30,33,34,35]⟩,⟨10,true,false,[23,24,25,26,27,28,29,30,34,35]⟩,⟨11,true,false,[23,24,25,26,27,28,29,30,35]⟩,⟨1,true,false,[25,26,27,28,29,30,31,32,33,34,35]⟩,⟨6,true,false,[30,31,32,33,34,35]⟩,⟨7,false,false,[]⟩,⟨12,false,false,[]⟩] (by kernel_rfl) ?_
 refine gg ?_
 refine af (nF) Tryz.call75 1 [0] [0] [] ?_
 refine gg ?_
 refine af (CS key.length val.length (by omega) (by omega)) Tryz.call76 0 [] [] [] ?_
 refine gg ?_
 refine af (pH) Tryz.call24 1 [0] [0] [] ?_
 refine gg ?_
 (refine aH ?_)
 conv=>whnf
 refine cE (fun i:Nat=>i≤cO K key) (fun i=>K.length - i) 1 [7,39,40,41,42,43,44,45,46,47,48,49,50,51,52,53,54,55,56,57,58,59,60] (fun i=>[(7,.val (.int .i64 (i:Int)))]) (fun i=>[]) 0 (Nat.zero_le _) ?_ ?_ ?_
 ·exact no_implicit_lambda%ten
 ·exact no_implicit_lambda%b6
 ·rintro i v i1
  refine cF ?_
  refine gg ?_
  refine bL (p:=1) ai hm [0,0,2,6,14,30,63,127,255,511,1023,2047,255,8191,16383,32767,255,65791,262143,524287] [⟨0,false,false,[]⟩,⟨1,false,false,[]⟩,⟨2,true,false,[39,42,43,44,45,46,47,48,49,50,51,52,53,54,55,56,57,58]⟩,⟨3,true,false,[39,43,44,45,46,47,48,49,50,51,52,53,54,55,56,57,58]⟩,⟨4,true,false,[39,44,45,46,47,48,49,50,51,52,53,54,55,56,57,58]⟩,⟨5,true,false,[39,45,46,47,48,49,50,51,52,53,54,55,56,57,58]⟩,⟨6,false,false,[]⟩,⟨7,false,false,[]⟩,⟨8,false,false,[]⟩,⟨9,true,false,[49,50,51,52,53,54,55,56,57,58]⟩,⟨10,true,false,[50,51,52,53,54,55,56,57,58]⟩,⟨11,true,false,[51,52,53,54,55,56,57,58]⟩,⟨12,false,false,[]⟩,⟨13,true,false,[53,54,55,56,57,58]⟩,⟨14,true,false,[54,55,56,57,58]⟩,⟨15,true,false,[55,56,57,58]⟩,⟨16,false,false,[]⟩,⟨17,true,false,[47,48,49,50,51,52,53,54,57,58]⟩,⟨18,false,false,[]⟩,⟨19,false,false,[]⟩] (by kernel_rfl) ?_
  by_cases ah:i<K.length
  ·refine gg ?_
   refine⟨fun h'=> ?_,fun h'=> ?_⟩
   ·simp only[Bool.and_eq_true,hs,Int.toNat_natCast] at h'
    have nc:=HV K key i i1 ah h'.2
    have Vb:(i:Int)+1≤4096:=by omega
    clear h' xr hr hk hs pH nF hb
    refine gg ?_
    refine(show kR 1 (su _ _ _ _ _ _ _ _ _) .normal _ from ?_)
    refine Ph ?_
    exact bk (i+1) nc (by show K.length - (i+1)<K.length - i;omega)
   ·simp only[Bool.and_eq_false_iff,hs,Int.toNat_natCast,decide_eq_false_iff_not] at h'
    have nc:=HW K key i i1 ah (h'.resolve_left (by omega))
    subst nc
    (
 have t1:(K.take (cO K key)).length=(cO K key):=by rw[List.length_take];omega
 have t2:(V.take (cO K key)).length=(cO K key):=by rw[List.length_take];omega
 have t3:=yw (x:=key) c8
 have t4:=yw (l:=V) (p:=(cO K key)) (x:=val) (by omega)
 refine gg ?_
 (
 refine⟨List UInt8,(fun k:List UInt8=>[AV.bs 0 k]),[],(K.take (cO K key)),?_⟩
 conv=>whnf
 refine And.intro ⟨rfl,fun x hx=>⟨trivial,trivial⟩,rfl,rfl,rfl,rfl,.inr rfl,rfl,by show _*24≤_;(try simp only[List.length_append]);omega,by decide⟩ ?_)
 refine gg ?_
 (
 refine⟨List UInt8,(fun k:List UInt8=>[AV.bs 0 k]),[],(K.take (cO K key)++[key]),?_⟩
 conv=>whnf
 refine And.intro ⟨rfl,⟨rfl,rfl,Nat.le_refl _,fun q hq=>(by(have jf:q=0:=by simpa using hq);subst jf;exact⟨trivial,trivial⟩)⟩,rfl,rfl,rfl,rfl,.inr rfl,(by rw[List.map_append];rfl),by show _*24≤_;simp only[List.length_append,List.length_singleton];omega,by decide⟩ ?_)
 refine gg ?_
 (
 refine⟨List UInt8,(fun k:List UInt8=>[AV.bs 0 k]),[],(V.take (cO K key)),?_⟩
 conv=>whnf
 refine And.intro ⟨rfl,fun x hx=>⟨trivial,trivial⟩,rfl,rfl,rfl,rfl,.inr rfl,rfl,by show _*24≤_;(try simp only[List.length_append]);omega,by decide⟩ ?_)
 refine gg ?_
 (
 refine⟨List UInt8,(fun k:List UInt8=>[AV.bs 0 k]),[],(V.take (cO K key)++[val]),?_⟩
 conv=>whnf
 refine And.intro ⟨rfl,⟨rfl,rfl,Nat.le_refl _,fun q hq=>(by(have jf:q=0:=by simpa using hq);subst jf;exact⟨trivial,trivial⟩)⟩,rfl,rfl,rfl,rfl,.inr rfl,(by rw[List.map_append];rfl),by show _*24≤_;simp only[List.length_append,List.length_singleton];omega,by decide⟩ ?_)
 refine gg ?_
 (
 refine⟨List UInt8,(fun k:List UInt8=>[AV.bs 0 k]),[],(putAt K (cO K key) key),?_⟩
 conv=>whnf
 refine And.intro ⟨rfl,fun x hx=>⟨trivial,trivial⟩,rfl,rfl,rfl,rfl,.inr rfl,yx _ _ _ _,by show _*24≤_;(try simp only[List.length_append]);omega,by decide⟩ ?_)
 refine gg ?_
 (
 refine⟨List UInt8,(fun k:List UInt8=>[AV.bs 0 k]),[],(putAt V (cO K key) val),?_⟩
 conv=>whnf
 refine And.intro ⟨rfl,fun x hx=>⟨trivial,trivial⟩,rfl,rfl,rfl,rfl,.inr rfl,yx _ _ _ _,by show _*24≤_;(try simp only[List.length_append]);omega,by decide⟩ ?_)
 refine gg ?_
 exact⟨_,rfl,rfl,rfl,rfl,trivial⟩)
  ·have nc:cO K key=i:=by omega
   subst nc
   (
 have t1:(K.take (cO K key)).length=(cO K key):=by rw[List.length_take];omega
 have t2:(V.take (cO K key)).length=(cO K key):=by rw[List.length_take];omega
 have t3:=yw (x:=key) c8
 have t4:=yw (l:=V) (p:=(cO K key)) (x:=val) (by omega)
 refine gg ?_
 (
 refine⟨List UInt8,(fun k:List UInt8=>[AV.bs 0 k]),[],(K.take (cO K key)),?_⟩
 conv=>whnf
 refine And.intro ⟨rfl,fun x hx=>⟨trivial,trivial⟩,rfl,rfl,rfl,rfl,.inr rfl,rfl,by show _*24≤_;(try simp only[List.length_append]);omega,by decide⟩ ?_)
 refine gg ?_
 (
 refine⟨List UInt8,(fun k:List UInt8=>[AV.bs 0 k]),[],(K.take (cO K key)++[key]),?_⟩
 conv=>whnf
 refine And.intro ⟨rfl,⟨rfl,rfl,Nat.le_refl _,fun q hq=>(by(have jf:q=0:=by simpa using hq);subst jf;exact⟨trivial,trivial⟩)⟩,rfl,rfl,rfl,rfl,.inr rfl,(by rw[List.map_append];rfl),by show _*24≤_;simp only[List.length_append,List.length_singleton];omega,by decide⟩ ?_)
 refine gg ?_
 (
 refine⟨List UInt8,(fun k:List UInt8=>[AV.bs 0 k]),[],(V.take (cO K key)),?_⟩
 conv=>whnf
 refine And.intro ⟨rfl,fun x hx=>⟨trivial,trivial⟩,rfl,rfl,rfl,rfl,.inr rfl,rfl,by show _*24≤_;(try simp only[List.length_append]);omega,by decide⟩ ?_)
 refine gg ?_
 (
 refine⟨List UInt8,(fun k:List UInt8=>[AV.bs 0 k]),[],(V.take (cO K key)++[val]),?_⟩
 conv=>whnf
 refine And.intro ⟨rfl,⟨rfl,rfl,Nat.le_refl _,fun q hq=>(by(have jf:q=0:=by simpa using hq);subst jf;exact⟨trivial,trivial⟩)⟩,rfl,rfl,rfl,rfl,.inr rfl,(by rw[List.map_append];rfl),by show _*24≤_;simp only[List.length_append,List.length_singleton];omega,by decide⟩ ?_)
 refine gg ?_
 (
 refine⟨List UInt8,(fun k:List UInt8=>[AV.bs 0 k]),[],(putAt K (cO K key) key),?_⟩
 conv=>whnf
 refine And.intro ⟨rfl,fun x hx=>⟨trivial,trivial⟩,rfl,rfl,rfl,rfl,.inr rfl,yx _ _ _ _,by show _*24≤_;(try simp only[List.length_append]);omega,by decide⟩ ?_)
 refine gg ?_
 (
 refine⟨List UInt8,(fun k:List UInt8=>[AV.bs 0 k]),[],(putAt V (cO K key) val),?_⟩
 conv=>whnf
 refine And.intro ⟨rfl,fun x hx=>⟨trivial,trivial⟩,rfl,rfl,rfl,rfl,.inr rfl,yx _ _ _ _,by show _*24≤_;(try simp only[List.length_append]);omega,by decide⟩ ?_)
 refine gg ?_
 exact⟨_,rfl,rfl,rfl,rfl,trivial⟩)
theorem Pk (ks vs : List (List UInt8)) (key val : List UInt8) (room : Int) (hl : ks.length ≤ 4096) (hv : vs.length = ks.length) (hb : (∀ k ∈ ks, k.length ≤ 4294967296) ∧ (∀ v ∈ vs, v.length ≤ 4294967296)) (hk : ¬ (key.length < 1 ∨ 255 < key.length ∨ 65536 < val.length)) (hr : ¬ room < (jl ks vs ks.length + (12 + key.length + val.length) : Nat)) (vm : Nat) : Spec Tryz.prog 21 [.ref 0 vm 3 0 0, .bs 0 key, .bs 0 val] [⟨vm, .obj [.sl 0 1 (fun k : List UInt8 => [AV.bs 0 k]) [] ks, .sl 0 1 (fun k : List UInt8 => [AV.bs 0 k]) [] vs, .val (.int .i64 room)]⟩]
   (ak (.val (.int .i64 (lf ks vs room key val).1)) [⟨vm,.obj [.sl 0 1 (fun k:List UInt8=>[AV.bs 0 k]) [] (lf ks vs room key val).2.1,.sl 0 1 (fun k:List UInt8=>[AV.bs 0 k]) [] (lf ks vs room key val).2.2,.val (.int .i64 room)]⟩] []):=by
 rw[show lf ks vs room key val=(0,putAt (eW ks vs key).1 (cO (eW ks vs key).1 key) key,putAt (eW ks vs key).2 (cO (eW ks vs key).1 key) val) by unfold lf;rw[if_neg hk,if_neg hr]]
 exact ix (Pj ks vs key val room hl hv hb hk hr _ rfl vm) (by simp[eM]) AF.same ⟨rfl,BF.obj rfl (aZ.cons (sX rfl rfl) (aZ.cons (sX rfl rfl) (aZ.cons AF.same aZ.nil))),trivial⟩
theorem Pm (ks vs : List (List UInt8)) (key val : List UInt8) (room : Int) (hl : ks.length ≤ 4096) (hv : vs.length = ks.length) (hb : (∀ k ∈ ks, k.length ≤ 4294967296) ∧ (∀ v ∈ vs, v.length ≤ 4294967296)) (bH : key.length ≤ 140737488355328) (dS : val.length ≤ 140737488355328) (vm : Nat) : Spec Tryz.prog 21 [.ref 0 vm 3 0 0, .bs 0 key, .bs 0 val] [⟨vm, .obj [.sl 0 1 (fun k : List UInt8 => [AV.bs 0 k]) [] ks, .sl 0 1 (fun k : List UInt8 => [AV.bs 0 k]) [] vs, .val (.int .i64 room)]⟩]
   (ak (.val (.int .i64 (lf ks vs room key val).1)) [⟨vm,.obj [.sl 0 1 (fun k:List UInt8=>[AV.bs 0 k]) [] (lf ks vs room key val).2.1,.sl 0 1 (fun k:List UInt8=>[AV.bs 0 k]) [] (lf ks vs room key val).2.2,.val (.int .i64 room)]⟩] []):=by
 by_cases hk:key.length<1∨255<key.length∨65536<val.length
 ·rw[show lf ks vs room key val=(1,ks,vs) from if_pos hk]
  refine ax ai Tryz.func21 rfl Tryz.ntmps21 Tryz.results21 ?_
  refine gg ?_
  exact⟨_,rfl,rfl,trivial⟩
 by_cases hr:room< (jl ks vs ks.length+(12+key.length+val.length):Nat)
 ·rw[show lf ks vs room key val=(5,ks,vs) by unfold lf;rw[if_neg hk,if_pos hr]]
  have nF:=CV ks vs room hl hv hb vm
  have xr:=CU hb hv ks.length (Nat.le_refl _)
  refine ax ai Tryz.func21 rfl Tryz.ntmps21 Tryz.results21 ?_
  refine gg ?_
  refine bL (p:=1) ai hm [0,1,0,4,0,16,63,127,0,256,768,1792,4095] [⟨0,false,false,[]⟩,⟨2,false,false,[]⟩,⟨3,true,false,[23,24,27,28,29,30,31,32,33,34,35]⟩,⟨4,false,false,[]⟩,⟨5,true,false,[23,24,25,26,29,30,31,32,33,34,35]⟩,⟨8,false,false,[]⟩,⟨9,true,false,[23,24,25,26,27,28,29,30,33,34,35]⟩,⟨10,true,false,[23,24,25,26,27,28,29,30,34,35]⟩,⟨11,true,false,[23,24,25,26,27,28,29,30,35]⟩,⟨1,true,false,[25,26,27,28,29,30,31,32,33,34,35]⟩,⟨6,true,false,[30,31,32,33,34,35]⟩,⟨7,false,false,[]⟩,⟨12,false,false,[]⟩] (by kernel_rfl) ?_
  refine gg ?_
  refine af (nF) Tryz.call75 1 [0] [0] [] ?_
  refine gg ?_
  refine af (CS key.length val.length (by omega) (by omega)) Tryz.call76 0 [] [] [] ?_
  refine gg ?_
  exact⟨_,rfl,rfl,trivial⟩
 exact Pk ks vs key val room hl hv hb hk hr vm
def av(R:List RK):List (List UInt8):=R.map fun r=>r.key
def aL(R:List RK):List (List UInt8):=R.map fun r=>r.val
theorem gB(R:List RK):(av R).length=R.length:=List.length_map ..
theorem sY(R:List RK):(aL R).length=R.length:=List.length_map ..
theorem HY(x:List UInt8)(l:List (List UInt8)):jm (x::l) 0=l:=by simp[jm]
theorem HZ(x:List UInt8)(l:List (List UInt8))(p:Nat):jm (x::l) (p+1)=x::jm l p:=by simp[jm]
theorem H3(r:RK)(R:List RK)(key:List UInt8):cV (av (r::R)) key=if r.key=key then 0 else 1+cV (av R) key:=rfl
theorem qY:∀(R:List RK)(key:List UInt8),cV (av R) key<R.length↔∃r∈R,r.key=key
 | [],key=>by simp
 | r::R,key=>by
  have ih:=qY R key
  rw[H3]
  by_cases h:r.key=key
  ·rw[if_pos h];simp[h]
  ·rw[if_neg h,List.length_cons,show(1+cV (av R) key<R.length+1)=(cV (av R) key<R.length) by rw[Nat.add_comm,Nat.add_lt_add_iff_right],ih]
   simp[h]
theorem yA{R:List RK}{key:List UInt8}(h:∀r∈R,r.key≠key):eO R key=R:=by
 unfold eO
 rw[List.filter_eq_self]
 intro r hr
 simp[h r hr]
theorem CW:∀(R:List RK)(key:List UInt8),cP R→(∃r∈R,r.key=key)→jm (av R) (cV (av R) key)=av (eO R key)∧jm (aL R) (cV (av R) key)=aL (eO R key)
 | [],key,_,h=>by obtain⟨r,hr,_⟩:=h;cases hr
 | r::R,key,hs,h=>by
  unfold cP at hs
  rw[List.pairwise_cons] at hs
  rw[H3]
  by_cases hk:r.key=key
  ·have hd:eO (r::R) key=R:=by
     have h1:eO R key=R:=yA fun x hx e=>by
      have:=hs.1 x hx
      rw[e,←hk,lR] at this
      cases this
     unfold eO at h1⊢
     rw[List.filter_cons_of_neg (by simp[hk]),h1]
   rw[if_pos hk,hd]
   exact⟨HY _ _,HY _ _⟩
  ·have hd:eO (r::R) key=r::eO R key:=by
     unfold eO
     rw[List.filter_cons_of_pos (by simp[hk])]
   obtain⟨x,hx,he⟩:=h
   have j4:x∈R:=by
    rcases List.mem_cons.1 hx with rfl | hx
    ·exact absurd he hk
    ·exact hx
   obtain⟨i1,i2⟩:=CW R key hs.2 ⟨x,j4,he⟩
   rw[if_neg hk,hd,Nat.add_comm]
   exact⟨by show jm (r.key::av R) _=r.key::_;rw[HZ,i1];rfl,by show jm (r.val::aL R) _=r.val::_;rw[HZ,i2];rfl⟩
theorem H4{R:List RK}(hs:cP R)(key:List UInt8):eW (av R) (aL R) key=(av (eO R key),aL (eO R key)):=by
 by_cases h:∃r∈R,r.key=key
 ·have h1:=(qY R key).2 h
  unfold eW
  rw[if_pos (by rw[gB];exact h1),(CW R key hs h).1,(CW R key hs h).2]
 ·have h1:¬cV (av R) key< (av R).length:=by rw[gB,qY];exact h
  unfold eW
  rw[if_neg h1,yA fun r hr e=>h ⟨r,hr,e⟩]
theorem H5:∀(R:List RK)(key:List UInt8),cO (av R) key=(R.takeWhile fun r=>aS r.key key).length
 | [],key=>rfl
 | r::R,key=>by
  have ih:=H5 R key
  show(if Op.bytesLess r.key key=true then 1+cO (av R) key else 0)=_
  cases h:aS r.key key with
  | true=>
   have h':Op.bytesLess r.key key=true:=h
   rw[if_pos h',List.takeWhile_cons_of_pos (p:=fun r:RK=>aS r.key key) h,List.length_cons,ih,Nat.add_comm]
  | false=>
   rw[if_neg (by rw[show Op.bytesLess r.key key=false from h];simp),List.takeWhile_cons_of_neg (p:=fun r:RK=>aS r.key key) (by simp[h])]
   rfl
theorem Pn(R:List RK)(x:RK):putAt (av R) (cO (av R) x.key) x.key=av (pI R x)∧putAt (aL R) (cO (av R) x.key) x.val=aL (pI R x):=by
 have h:(R.takeWhile (fun r=>aS r.key x.key)++R.dropWhile (fun r=>aS r.key x.key))=R:=List.takeWhile_append_dropWhile
 rw[H5]
 unfold pI putAt av aL
 generalize R.takeWhile (fun r=>aS r.key x.key)=a at h⊢
 generalize R.dropWhile (fun r=>aS r.key x.key)=b at h⊢
 subst h
 constructor
 ·rw[List.map_append,List.take_left' (by simp),List.drop_left' (by simp)];simp
 ·rw[List.map_append,List.take_left' (by simp),List.drop_left' (by simp)];simp
theorem H6(r:RK):∀l:List RK,aP (l++[r])=aP l+(12+r.key.length+r.val.length)
 | []=>by simp[aP]
 | x::l=>by
  have:=H6 r l
  simp only[List.cons_append,aP,this];omega
theorem H7(R:List RK):∀n,n≤R.length→jl (av R) (aL R) n=aP (R.take n)
 | 0,_=>by simp[jl,aP]
 | n+1,h=>by
  have ih:=H7 R n (by omega)
  have hn:n<R.length:=by omega
  have h1:(av R).getD n []=R[n].key:=by unfold av;rw[List.getD_eq_getElem?_getD,List.getElem?_map,List.getElem?_eq_getElem hn];rfl
  have h2:(aL R).getD n []=R[n].val:=by unfold aL;rw[List.getD_eq_getElem?_getD,List.getElem?_map,List.getElem?_eq_getElem hn];rfl
  rw[jl,ih,h1,h2,List.take_succ_eq_append_getElem hn,H6]
theorem H8(R:List RK):jl (av R) (aL R) (av R).length=aP R:=by
 rw[gB,H7 R _ (Nat.le_refl _),List.take_length]
def fh(R:List RK)(room:Int)(key val:List UInt8):Int:=if key.length<1∨255<key.length∨65536<val.length then 1 else if room< (aP R+(12+key.length+val.length):Nat) then 5 else 0
def eP(R:List RK)(room:Int)(key val:List UInt8):List RK:=if fh R room key val=0 then ou R key val else R
theorem Po{R:List RK}(hs:cP R)(room:Int)(key val:List UInt8):lf (av R) (aL R) room key val=(fh R room key val,av (eP R room key val),aL (eP R room key val)):=by
 unfold lf eP fh
 rw[H8,H4 hs]
 by_cases h1:key.length<1∨255<key.length∨65536<val.length
 ·simp only[if_pos h1];rfl
 ·simp only[if_neg h1]
  by_cases h2:room< (aP R+(12+key.length+val.length):Nat)
  ·simp only[if_pos h2];rfl
  ·simp only[if_neg h2,if_true]
   have:=Pn (eO R key) ⟨key,val,true⟩
   unfold ou
   rw[←this.1,←this.2]
def ov(R:List RK)(key:List UInt8):Int:=if cV (av R) key< (av R).length then 0 else 3
theorem H9{R:List RK}{key:List UInt8}(h:∃r∈R,r.key=key):ov R key=0:=if_pos (by rw[gB];exact(qY R key).2 h)
theorem Ia{R:List RK}{key:List UInt8}(h:∀r∈R,r.key≠key):ov R key=3:=if_neg (by rw[gB,qY];rintro⟨r,hr,e⟩;exact h r hr e)
structure SM(s:U)(c k i:Nat)(R:List RK):Prop where
 ex:∃(G:Int)(M:List RK),NM s c k G M∧RM M R∧G≤1+i
 go:aw (1000+i*300000000000) (2*c*k) k s
 len:R.length≤i
 ok:∀r∈R,fJ r
theorem SM.sort{s:U}{c k i:Nat}{R:List RK}(h:SM s c k i R):cP R:=by
 obtain⟨G,M,_,h2,_⟩:=h.ex
 exact h2.sort
theorem SM.mono{s:U}{c k i j:Nat}{R:List RK}(h:SM s c k i R)(lS:i≤j):SM s c k j R:=by
 obtain⟨G,M,h1,h2,h3⟩:=h.ex
 exact⟨⟨G,M,h1,h2,by omega⟩,h.go.mono (by omega),Nat.le_trans h.len lS,h.ok⟩
theorem yB(R:List RK)(key:List UInt8):(eO R key).length≤R.length:=List.length_filter_le ..
theorem CX(R:List RK)(key val:List UInt8):(ou R key val).length≤R.length+1:=by
 have h:=(sZ (eO R key) ⟨key,val,true⟩).length_eq
 have:=yB R key
 unfold ou
 rw[h,List.length_append,List.length_singleton];omega
theorem SM.set {s : U} {c k i : Nat} {R : List RK} (h : SM s c k i R) (hi : i ≤ 4000000000) (hk : 0 < k) (pa : aA (2 * c * k) k 0 c) (pb : aA (2 * c * k) k c c) (key val : List UInt8) :
    (s.set c key val).1=fh R ((c*k - 16:Nat):Int) key val∧SM (s.set c key val).2 c k (i+1) (eP R ((c*k - 16:Nat):Int) key val)∧(fh R ((c*k - 16:Nat):Int) key val≠0→(s.set c key val).2=s):=by
 obtain⟨G,M,h1,h2,h3⟩:=h.ex
 have hu:=h2.used
 unfold eP
 by_cases hb:key.length<1∨255<key.length∨65536<val.length
 ·have e:s.set c key val=(1,s):=by unfold U.set;rw[if_pos hb]
  have e2:fh R ((c*k - 16:Nat):Int) key val=1:=if_pos hb
  rw[e,e2,if_neg (by decide)]
  exact⟨rfl,h.mono (Nat.le_succ i),fun _=>rfl⟩
 ·have hs:=h1.set hk (by omega:G<4294967295) (key:=key) (val:=val) ⟨by omega,by omega⟩ (by omega)
  by_cases hf:((c*k - 16:Nat):Int)< (aP R+(12+key.length+val.length):Nat)
  ·have e:=hs.1 (by rw[←hu];omega)
   have e2:fh R ((c*k - 16:Nat):Int) key val=5:=by unfold fh;rw[if_neg hb,if_pos hf]
   rw[e,e2,if_neg (by decide)]
   exact⟨rfl,h.mono (Nat.le_succ i),fun _=>rfl⟩
  ·obtain⟨s',e,m'⟩:=hs.2 (by rw[←hu];omega)
   have e2:fh R ((c*k - 16:Nat):Int) key val=0:=by unfold fh;rw[if_neg hb,if_neg hf]
   have gg:=h.go.set pa pb key val
   rw[e] at gg⊢
   rw[e2,if_pos rfl]
   have Pp:=sZ (eO R key) ⟨key,val,true⟩
   refine⟨rfl,⟨⟨G+1,_,m',h2.set key val,by omega⟩,gg.mono (by omega),Nat.le_trans (CX R key val) (Nat.succ_le_succ h.len),fun r hr=> ?_⟩,fun q=>absurd rfl q⟩
   rcases List.mem_append.1 (Pp.mem_iff.1 hr) with hr | hr
   ·exact h.ok r (List.mem_filter.1 hr).1
   ·rw[List.mem_singleton] at hr;subst hr
    exact⟨⟨by show 1≤key.length;omega,by show key.length≤255;omega⟩,by show val.length≤65536;omega⟩
theorem aw.del{B:Int}{n k:Nat}{s:U}(g:aw B n k s)(c:Nat)(key:List UInt8):aw (B+1) n k (s.del c key).2:=by
 unfold U.del
 split
 ·exact g.mono (by omega)
 ·split
  ·exact g.mono (by omega)
  ·exact g.kill _ _ _
theorem SM.del {s : U} {c k i : Nat} {R : List RK} (h : SM s c k i R) (key : List UInt8) :
    (s.del c key).1=ov R key∧SM (s.del c key).2 c k (i+1) (eO R key)∧(ov R key≠0→(s.del c key).2=s∧eO R key=R):=by
 obtain⟨G,M,h1,h2,h3⟩:=h.ex
 have hd:=h1.del key
 by_cases hx:∃r∈R,r.key=key
 ·have j4:∃r∈M,r.key=key:=by obtain⟨r,hr,e⟩:=hx;exact⟨r,h2.perm.mem_iff.1 hr,e⟩
  obtain⟨s',e,m'⟩:=hd.2 j4
  have gg:=h.go.del c key
  rw[e] at gg⊢
  rw[H9 hx]
  exact⟨rfl,⟨⟨G,_,m',h2.del key,by omega⟩,gg.mono (by omega),Nat.le_trans (yB R key) (Nat.le_succ_of_le h.len),fun r hr=>h.ok r (List.mem_filter.1 hr).1⟩,fun q=>absurd rfl q⟩
 ·have ka:∀r∈R,r.key≠key:=fun r hr e=>hx ⟨r,hr,e⟩
  have e:=hd.1 fun r hr q=>ka r (h2.perm.mem_iff.2 hr) q
  rw[e,Ia ka,yA ka]
  exact⟨rfl,h.mono (Nat.le_succ i),fun _=>⟨rfl,rfl⟩⟩
theorem SM.new{c k:Nat}(hc:2≤2*c∧2*c≤64)(hk:16≤k∧k≤65536)(gA:64≤c*k):∃s,(U.new (2*c) k).aW c=(0,s)∧SM s c k 0 []:=by
 obtain⟨s1,b1,o1,m1⟩:=NM.new (c:=c) (k:=k) (by omega) gA
 have g0:aw 0 (2*c*k) k (U.new (2*c) k):=aw.new (2*c) k (by omega) hk
 have g1:=g0.CY c 1
 rw[b1] at g1
 exact⟨s1,o1,⟨⟨1,[],m1,RM.nil,by omega⟩,g1.mono (by omega),Nat.zero_le _,fun r hr=>by cases hr⟩⟩
theorem Ib{R:List RK}(cq:∀r∈R,fJ r):(∀k∈av R,k.length≤4294967296)∧(∀v∈aL R,v.length≤4294967296):=by
 constructor
 ·intro k hk
  obtain⟨r,hr,rfl⟩:=List.mem_map.1 hk
  have:=cq r hr
  have:=this.1.2
  omega
 ·intro k hk
  obtain⟨r,hr,rfl⟩:=List.mem_map.1 hk
  have:=cq r hr
  have:=this.2
  omega
theorem Ic (R : List RK) (hs : cP R) (cq : ∀ r ∈ R, fJ r) (hl : R.length ≤ 4096) (key val : List UInt8) (bH : key.length ≤ 140737488355328) (dS : val.length ≤ 140737488355328) (room : Int) (vm : Nat) : Spec Tryz.prog 21 [.ref 0 vm 3 0 0, .bs 0 key, .bs 0 val] [⟨vm, .obj [.sl 0 1 (fun k : List UInt8 => [AV.bs 0 k]) [] (av R), .sl 0 1 (fun k : List UInt8 => [AV.bs 0 k]) [] (aL R), .val (.int .i64 room)]⟩]
   (ak (.val (.int .i64 (fh R room key val))) [⟨vm,.obj [.sl 0 1 (fun k:List UInt8=>[AV.bs 0 k]) [] (av (eP R room key val)),.sl 0 1 (fun k:List UInt8=>[AV.bs 0 k]) [] (aL (eP R room key val)),.val (.int .i64 room)]⟩] []):=by
 have h:=Pm (av R) (aL R) key val room (by rw[gB];exact hl) (by rw[gB,sY]) (Ib cq) bH dS vm
 rw[Po hs] at h
 exact h
theorem Pq (R : List RK) (hs : cP R) (hl : R.length ≤ 4096) (z : Nat) (key : List UInt8) (room : Int) (vm : Nat) : Spec Tryz.prog 24 [.ref 0 vm 3 0 0, .bs z key] [⟨vm, .obj [.sl 0 1 (fun k : List UInt8 => [AV.bs 0 k]) [] (av R), .sl 0 1 (fun k : List UInt8 => [AV.bs 0 k]) [] (aL R), .val (.int .i64 room)]⟩]
   (ak (.val (.int .i64 (ov R key))) [⟨vm,.obj [.sl 0 1 (fun k:List UInt8=>[AV.bs 0 k]) [] (av (eO R key)),.sl 0 1 (fun k:List UInt8=>[AV.bs 0 k]) [] (aL (eO R key)),.val (.int .i64 room)]⟩] []):=by
 have h:=HT z (av R) (aL R) key room (by rw[gB];exact hl) (by rw[gB,sY]) vm
 rw[H4 hs] at h
 exact h
theorem Pr(R:List RK)(cq:∀r∈R,fJ r)(hl:R.length≤4096)(room:Int)(vm:Nat):Spec Tryz.prog 75 [.ref 0 vm 3 0 0] [⟨vm,.obj [.sl 0 1 (fun k:List UInt8=>[AV.bs 0 k]) [] (av R),.sl 0 1 (fun k:List UInt8=>[AV.bs 0 k]) [] (aL R),.val (.int .i64 room)]⟩] (ak (.val (.int .i64 (aP R:Int))) [⟨vm,.obj [.sl 0 1 (fun k:List UInt8=>[AV.bs 0 k]) [] (av R),.sl 0 1 (fun k:List UInt8=>[AV.bs 0 k]) [] (aL R),.val (.int .i64 room)]⟩] []):=by
 have h:=CV (av R) (aL R) room (by rw[gB];exact hl) (by rw[gB,sY]) (Ib cq) vm
 rw[H8] at h
 exact h
theorem Ps(R:List RK)(hl:R.length≤4096)(room:Int)(vm:Nat):Spec Tryz.prog 20 [.ref 0 vm 3 0 0] [⟨vm,.obj [.sl 0 1 (fun k:List UInt8=>[AV.bs 0 k]) [] (av R),.sl 0 1 (fun k:List UInt8=>[AV.bs 0 k]) [] (aL R),.val (.int .i64 room)]⟩] (ak (.ref 21 1 3 0 0) [⟨vm,.obj [.sl 0 1 (fun k:List UInt8=>[AV.bs 0 k]) [] (av R),.sl 0 1 (fun k:List UInt8=>[AV.bs 0 k]) [] (aL R),.val (.int .i64 room)]⟩] [(21,⟨1,.obj [.sl 0 1 (fun k:List UInt8=>[AV.bs 0 k]) [] (av R),.sl 0 1 (fun k:List UInt8=>[AV.bs 0 k]) [] (aL R),.val (.int .i64 room)]⟩)]):=
 Pd (av R) (aL R) room (by rw[gB];exact hl) (by rw[sY];exact hl) vm
theorem CZ(R:List RK)(hl:R.length≤4096)(z:Nat)(key:List UInt8)(room:Int)(vm:Nat):Spec Tryz.prog 29 [.ref 0 vm 3 0 0,.bs z key] [⟨vm,.obj [.sl 0 1 (fun k:List UInt8=>[AV.bs 0 k]) [] (av R),.sl 0 1 (fun k:List UInt8=>[AV.bs 0 k]) [] (aL R),.val (.int .i64 room)]⟩] (ak (.val (.int .i64 (kE (av R) key))) [⟨vm,.obj [.sl 0 1 (fun k:List UInt8=>[AV.bs 0 k]) [] (av R),.sl 0 1 (fun k:List UInt8=>[AV.bs 0 k]) [] (aL R),.val (.int .i64 room)]⟩] []):=
 CT z (av R) (aL R) key room (by rw[gB];omega) vm
end Go.Proofs.YtpbpiehcchannaaGreatDoor
