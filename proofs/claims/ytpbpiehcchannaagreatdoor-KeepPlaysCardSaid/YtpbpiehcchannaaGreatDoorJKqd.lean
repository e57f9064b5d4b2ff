/- Walks of lintelref21: Get. Walks of lintelref21: Put, Drop, Next, Mark, SetMark, Used, New, Copy. Conditions: the premises of each law. -/
import Derived.Test.YtpbpiehcchannaaGreatDoorJKqb
import Derived.Test.YtpbpiehcchannaaGreatDoorJKqc
import Derived.Test.YtpbpiehcchannaaGreatDoorJKqa
import Derived.Test.YtpbpiehcchannaaGreatDoorJHf
import Derived.Test.YtpbpiehcchannaaGreatDoorJKqi
import Derived.Test.YtpbpiehcchannaaGreatDoorJHa
namespace Go.Proofs.YtpbpiehcchannaaGreatDoor
open Go.RowKit
set_option linter.unusedVariables false
set_option linter.unusedSimpArgs false
set_option maxRecDepth 100000
set_option maxHeartbeats 1500000
theorem atI_key:∀(ks:List (List UInt8))(key:List UInt8),atI ks key<ks.length→ks.getD (atI ks key) []=key
 | [],_,h=>by simp at h
 | k::ks,key,h=>by
  unfold atI at h⊢
  by_cases q:k=key
  ·rw[if_pos q];exact q
  ·rw[if_neg q] at h⊢
   rw[Nat.add_comm,List.getD_cons_succ]
   exact atI_key ks key (by simp only[List.length_cons] at h;omega)
theorem atV_in{R:List RK}(hs:SortK R){r:RK}(hr:r∈R):∃j:Nat,j<R.length∧atV (ksR R) r.key=(j:Int)∧(vsR R).getD j []=r.val∧(ksR R).getD j []=r.key:=by
 have h1:atI (ksR R) r.key<R.length:=(atI_in R r.key).2 ⟨r,hr,rfl⟩
 have hk:=atI_key (ksR R) r.key (by rw[ksR_len];exact h1)
 refine⟨atI (ksR R) r.key,h1,?_,?_,hk⟩
 ·unfold atV
  rw[if_pos (by rw[ksR_len];exact h1)]
 ·generalize atI (ksR R) r.key=j at h1 hk
  have e1:(ksR R).getD j []=R[j].key:=by unfold ksR;rw[List.getD_eq_getElem?_getD,List.getElem?_map,List.getElem?_eq_getElem h1];rfl
  have e2:(vsR R).getD j []=R[j].val:=by unfold vsR;rw[List.getD_eq_getElem?_getD,List.getElem?_map,List.getElem?_eq_getElem h1];rfl
  rw[e1] at hk
  rw[e2,hs.one (List.getElem_mem h1) hr hk]
theorem atV_out{R:List RK}{key:List UInt8}(h:∀r∈R,r.key≠key):atV (ksR R) key= -1:=by
 unfold atV
 rw[if_neg (by rw[ksR_len,atI_in];rintro⟨r,hr,e⟩;exact h r hr e)]
theorem rget21_bad (nm : ByteArray) (hn : nm.size ≤ 140737488355328) (g : List UInt8) (hr : rightN nm = false) (R : List RK) (room : Int) (vb vm : Nat) : Spec Tryz.prog 100 [.ref 0 vb 1 0 0, .val (.string nm), .agg (bytesA 16 g)] [⟨vb, .obj [.ref 1 vm 3 0 0]⟩, ⟨vm, .obj [.sl 0 1 (fun k : List UInt8 => [AV.bs 0 k]) [] (ksR R), .sl 0 1 (fun k : List UInt8 => [AV.bs 0 k]) [] (vsR R), .val (.int .i64 room)]⟩]
   (pms (.tup [.agg (varA (.val (.slice none 0 0)) varZ),.val (.bool false),.val (.int .i64 1)]) [⟨vb,.obj [.ref 1 vm 3 0 0]⟩,⟨vm,.obj [.sl 0 1 (fun k:List UInt8=>[AV.bs 0 k]) [] (ksR R),.sl 0 1 (fun k:List UInt8=>[AV.bs 0 k]) [] (vsR R),.val (.int .i64 room)]⟩] []):=by
 refine spec_entry tbOk Tryz.func100 rfl Tryz.ntmps100 Tryz.results100 ?_
 refine gg (k:= ?_)
 refine cmks (rkey_no nm hn g hr) Tryz.call146 (hon:=rowu) 0 [] [] [] ?_
 refine gg (k:= ?_)
 exact⟨_,rfl,rfl,trivial⟩
theorem rget21_no (nm : ByteArray) (hn : nm.size ≤ 140737488355328) (g : List UInt8) (hg : g.length = 16) (hr : rightN nm = true) (R : List RK) (hl : R.length ≤ 4096) (hm : ∀ r ∈ R, r.key ≠ keyV nm g) (room : Int) (vb vm : Nat) : Spec Tryz.prog 100 [.ref 0 vb 1 0 0, .val (.string nm), .agg (bytesA 16 g)] [⟨vb, .obj [.ref 1 vm 3 0 0]⟩, ⟨vm, .obj [.sl 0 1 (fun k : List UInt8 => [AV.bs 0 k]) [] (ksR R), .sl 0 1 (fun k : List UInt8 => [AV.bs 0 k]) [] (vsR R), .val (.int .i64 room)]⟩]
   (pms (.tup [.agg (varA (.val (.slice none 0 0)) varZ),.val (.bool false),.val (.int .i64 0)]) [⟨vb,.obj [.ref 1 vm 3 0 0]⟩,⟨vm,.obj [.sl 0 1 (fun k:List UInt8=>[AV.bs 0 k]) [] (ksR R),.sl 0 1 (fun k:List UInt8=>[AV.bs 0 k]) [] (vsR R),.val (.int .i64 room)]⟩] []):=by
 have hA:=mat_vc R hl 0 (keyV nm g) room vm
 rw[atV_out hm] at hA
 refine spec_entry tbOk Tryz.func100 rfl Tryz.ntmps100 Tryz.results100 ?_
 refine gg (k:= ?_)
 refine cmks (rkey_vc nm hn g hg hr) Tryz.call146 (hon:=rowu) 0 [] [] [] ?_
 refine gg (k:= ?_)
 refine cmks (hA) Tryz.call29 1 [1] [0] [] ?_
 refine gg (k:= ?_)
 exact⟨_,rfl,rfl,trivial⟩
theorem putA_mid(p q r:List AV)(j:Nat)(y:AV)(h:j<q.length):putA (p++(q++r)) (p.length+j) [y]=p++(putA q j [y]++r):=by
 unfold putA
 rw[takeL_eq,dropL_eq,takeL_eq,dropL_eq,List.take_length_add_append,Nat.add_assoc,List.drop_length_add_append,List.take_append_of_le_length (by omega),List.drop_append_of_le_length (by show j+1≤q.length;omega)]
 simp
theorem putA_ow(x:AV)(v:VarV)(i:Nat)(hi:i<32)(b:UInt8)(hb:b=v.ow.getD i 0):putA (varA x ⟨v.nm,v.g,v.at_,v.t,v.ow.take i,v.d⟩) (24+(i:Int).toNat*1) [.val (.int .u8 ((b.toNat:Nat):Int))]=varA x ⟨v.nm,v.g,v.at_,v.t,v.ow.take (i+1),v.d⟩:=by
 have e:∀l:List UInt8,varA x ⟨v.nm,v.g,v.at_,v.t,l,v.d⟩=([.val (.string v.nm)]++(bytesA 16 v.g++([.val (.int .u32 v.at_)]++v.t.cells)))++(bytesA 32 l++[x]):=fun l=>rfl
 have hp:([.val (.string v.nm)]++(bytesA 16 v.g++([.val (.int .u32 v.at_)]++v.t.cells)):List AV).length=24:=rfl
 rw[e,e]
 generalize ([.val (.string v.nm)]++(bytesA 16 v.g++([.val (.int .u32 v.at_)]++v.t.cells)):List AV)=p at hp⊢
 have h1:=putA_mid p (bytesA 32 (v.ow.take i)) [x] i (.val (.int .u8 ((b.toNat:Nat):Int))) (by show i<32;exact hi)
 rw[show 24+(i:Int).toNat*1=p.length+i by omega,h1]
 have h2:=putA_bytes (n:=32) v.ow i hi
 rw[show 0+(i:Int).toNat*1=i by omega,Int.toNat_natCast,←hb] at h2
 rw[h2]
theorem laid_ow(v:VarV)(how:v.ow.length=32)(i:Nat)(hi:i<32):(laidV v).getD (20+(i:Int)).toNat 0=v.ow.getD i 0:=by
 have hT:v.t.bytes.length=16:=by simp[Tm.bytes,leB_len]
 have hL4:=leB_len 4 v.at_
 rw[show(20+(i:Int)).toNat=20+i by omega]
 unfold laidV
 rw[List.append_assoc,List.getD_eq_getElem?_getD,List.getD_eq_getElem?_getD,List.getElem?_append_right (by rw[List.length_append,hT,hL4];omega),List.length_append,hT,hL4,show 20+i - (4+16)=i by omega,List.getElem?_append_left (by omega)]
theorem rget21_raw (v : VarV) (hv : VOk v) (R : List RK) (hs : SortK R) (hl : R.length ≤ 4096) (hmem : rcdV v ∈ R) (room : Int) (vb vm : Nat) : Spec Tryz.prog 100 [.ref 0 vb 1 0 0, .val (.string v.nm), .agg (bytesA 16 v.g)] [⟨vb, .obj [.ref 1 vm 3 0 0]⟩, ⟨vm, .obj [.sl 0 1 (fun k : List UInt8 => [AV.bs 0 k]) [] (ksR R), .sl 0 1 (fun k : List UInt8 => [AV.bs 0 k]) [] (vsR R), .val (.int .i64 room)]⟩]
   (pms (.tup [.agg (varA (.own 72 2 1 0 v.d.length) v),.val (.bool true),.val (.int .i64 0)]) [⟨vb,.obj [.ref 1 vm 3 0 0]⟩,⟨vm,.obj [.sl 0 1 (fun k:List UInt8=>[AV.bs 0 k]) [] (ksR R),.sl 0 1 (fun k:List UInt8=>[AV.bs 0 k]) [] (vsR R),.val (.int .i64 room)]⟩] [(72,⟨2,.bytes v.d⟩)]):=by
 obtain⟨hok,hr,ht,hd⟩:=hv
 obtain⟨hnm,hg,ha,htm,how,hdd⟩:=hok
 obtain⟨j,j1,j2,j3,_⟩:=atV_in hs hmem
 have hA:=mat_vc R hl 0 (keyV v.nm v.g) room vm
 rw[show atV (ksR R) (keyV v.nm v.g)=(j:Int) from j2] at hA
 have j3:(vsR R).getD j []=laidV v:=j3
 have hvl:=vsR_len R
 have hT:v.t.bytes.length=16:=by simp[Tm.bytes,leB_len]
 have hL4:=leB_len 4 v.at_
 have hlen:(laidV v).length=52+v.d.length:=by unfold laidV;simp only[List.length_append,hT,hL4,how]
 have e4:(laidV v).take 4=leB 4 v.at_:=by unfold laidV;rw[List.append_assoc,List.append_assoc];exact List.take_left' hL4
 have e20:((laidV v).take 20).drop 4=v.t.bytes:=by
  unfold laidV
  rw[List.append_assoc,List.append_assoc,←List.append_assoc,List.take_left' (by rw[List.length_append,hT,hL4]),List.drop_left' hL4]
 have ed:(laidV v).drop 52=v.d:=by
  unfold laidV
  rw[List.drop_left' (by rw[List.length_append,List.length_append,hT,hL4,how])]
 refine spec_entry tbOk Tryz.func100 rfl Tryz.ntmps100 Tryz.results100 ?_
 refine gg (k:= ?_)
 refine cmks (rkey_vc v.nm hnm v.g hg hr) Tryz.call146 (hon:=rowu) 0 [] [] [] ?_
 refine gg (k:= ?_)
 refine cmks (hA) Tryz.call29 1 [1] [0] [] ?_
 refine gg (k:= ?_)
 rw[show(vsR R).getD (Int.toNat (j:Int)) []=laidV v by rw[Int.toNat_natCast];exact j3]
 rw[hlen]
 refine gg (k:= ?_)
 rw[decide_eq_false (by omega:¬((52+v.d.length:Nat):Int)<52)]
 refine gg (k:= ?_)
 refine cmks (rget4_z 0 (laidV v) (by omega) (by omega) v.at_ ha e4) Tryz.call147 0 [] [] [] ?_
 refine gg (k:= ?_)
 rw[show List.drop (Int.toNat 4) (List.take (Int.toNat 20) (laidV v))=v.t.bytes from e20]
 refine cdet (rread_vc v.t ht 0) Tryz.call148 (hX:=⟨⟨trivial,trivial,trivial,trivial,trivial,trivial,trivial⟩,trivial,trivial⟩) [] ?_
 refine gg (k:= ?_)
 (refine sts (k:= ?_))
 refine draw_of (p:=2) tbOk hm [0,0,0,4,0,0,0,64,224,511,0,2047] [⟨0,false,false,[]⟩,⟨1,false,false,[5]⟩,⟨2,false,false,[]⟩,⟨3,false,false,[]⟩,⟨4,false,false,[16]⟩,⟨5,false,false,[70]⟩,⟨6,false,false,[]⟩,⟨7,false,false,[]⟩,⟨8,true,true,[16,5,65,66,67,68,69,74,17]⟩,⟨9,false,false,[70]⟩,⟨10,false,false,[17]⟩,⟨11,true,true,[]⟩] (by kernel_rfl) ?_
 refine gg (k:= ?_)
 conv=>whnf
 refine⟨v.d,?_⟩
 conv=>whnf
 refine And.intro ⟨rfl,trivial,rfl,rfl,rfl,rfl,rfl,(by rw[Int.toNat_natCast,List.take_length];exact congrArg bcells ed),(by show(0+v.d.length)*1≤_;omega),by decide⟩ ?_
 rw[show(List.map (fun n:Int=>UInt8.ofNat n.toNat) []).length+v.d.length=v.d.length from Nat.zero_add _]
 refine gg (k:= ?_)
 rw[show v.at_%4294967296=v.at_ by omega]
 (refine sts (k:= ?_))
 conv=>whnf
 refine loop_at (fun i:Nat=>i≤32) (fun i=>32 - i) 2 [18,75,76,77,78,79,80,81,82,83,84,85,86] (fun i=>[(18,.val (.int .i64 (i:Int)))]) (fun i=>[(19,⟨1,.obj (varA (.own 72 2 1 0 v.d.length) ⟨v.nm,v.g,v.at_,v.t,v.ow.take i,v.d⟩)⟩)]) 0 (Nat.zero_le _) ?_ ?_ ?_
 ·exact no_implicit_lambda%ten
 ·exact no_implicit_lambda%hen
 ·rintro i w i1
  refine glp (k:= ?_)
  refine gg (k:= ?_)
  refine⟨fun h=> ?_,fun h=> ?_⟩
  ·have hi:i<32:=by have:=of_decide_eq_true h;omega
   refine gg (k:= ?_)
   conv=>whnf
   refine And.intro ⟨rfl,rfl,⟨rfl,trivial⟩,rfl,by show 24+(i:Int).toNat*1+1≤57;omega⟩ ?_
   dsimp only[setD,setL,updH,evA,unA,getA,getL,flatA]
   rw[putA_ow (.own 72 2 1 0 v.d.length) v i hi ((laidV v).getD (20+(i:Int)).toNat 0) (laid_ow v how i hi)]
   refine gg (k:= ?_)
   refine back_at (i+1) hi (by show 32 - (i+1)<32 - i;omega) ?_ ?_
   ·exact no_implicit_lambda%ten
   ·exact no_implicit_lambda%hen
  ·have hi:i=32:=by have:=of_decide_eq_false h;omega
   subst hi
   rw[List.take_of_length_le (by omega:v.ow.length≤32)]
   refine gg (k:= ?_)
   exact⟨_,rfl,rfl,rfl,trivial⟩
end Go.Proofs.YtpbpiehcchannaaGreatDoor
namespace Go.Proofs.YtpbpiehcchannaaGreatDoor
open Go.RowKit
set_option linter.unusedVariables false
set_option linter.unusedSimpArgs false
set_option maxRecDepth 100000
set_option maxHeartbeats 1500000
theorem keyV_len'{nm:ByteArray}{g:List UInt8}(h:rightN nm=true)(hg:g.length=16):1≤(keyV nm g).length∧(keyV nm g).length≤255:=by
 unfold rightN at h
 simp only[Bool.and_eq_true,decide_eq_true_eq] at h
 unfold keyV
 rw[List.length_append,hg]
 simp only[Array.length_toList,ByteArray.size_data]
 omega
theorem rget21_z (v : VarV) (hv : VOk v) (R : List RK) (hs : SortK R) (hl : R.length ≤ 4096) (hmem : rcdV v ∈ R) (room : Int) (vb vm : Nat) : Spec Tryz.prog 100 [.ref 0 vb 1 0 0, .val (.string v.nm), .agg (bytesA 16 v.g)] [⟨vb, .obj [.ref 1 vm 3 0 0]⟩, ⟨vm, .obj [.sl 0 1 (fun k : List UInt8 => [AV.bs 0 k]) [] (ksR R), .sl 0 1 (fun k : List UInt8 => [AV.bs 0 k]) [] (vsR R), .val (.int .i64 room)]⟩]
   (pms (.tup [.agg (varA (.bs 0 v.d) v),.val (.bool true),.val (.int .i64 0)]) [⟨vb,.obj [.ref 1 vm 3 0 0]⟩,⟨vm,.obj [.sl 0 1 (fun k:List UInt8=>[AV.bs 0 k]) [] (ksR R),.sl 0 1 (fun k:List UInt8=>[AV.bs 0 k]) [] (vsR R),.val (.int .i64 room)]⟩] []):=
 spec_frz (rget21_raw v hv R hs hl hmem room vb vm) (by simp[geM]) (AF.tup (AFL.cons (AF.agg (varA_AFL (AF.own rfl rfl) v)) (AFL.cons AF.same (AFL.cons AF.same AFL.nil)))) ⟨rfl,BF.same,rfl,BF.same,trivial⟩
theorem rput21_vc(v:VarV)(hv:v.Ok)(R:List RK)(hs:SortK R)(hok:∀r∈R,OkK r)(hl:R.length≤4096)(room:Int)(vb vm:Nat):Spec Tryz.prog 101 [.ref 0 vb 1 0 0,.agg (varA (.bs 0 v.d) v)] [⟨vb,.obj [.ref 1 vm 3 0 0]⟩,⟨vm,.obj [.sl 0 1 (fun k:List UInt8=>[AV.bs 0 k]) [] (ksR R),.sl 0 1 (fun k:List UInt8=>[AV.bs 0 k]) [] (vsR R),.val (.int .i64 room)]⟩] (pms (.val (.int .i64 (rputP R room v).1)) [⟨vb,.obj [.ref 1 vm 3 0 0]⟩,⟨vm,.obj [.sl 0 1 (fun k:List UInt8=>[AV.bs 0 k]) [] (ksR (rputP R room v).2),.sl 0 1 (fun k:List UInt8=>[AV.bs 0 k]) [] (vsR (rputP R room v).2),.val (.int .i64 room)]⟩] []):=by
 cases hr:rightN v.nm with
 | false=>
  have hP:putOk v=false:=by unfold putOk;rw[hr];rfl
  rw[show rputP R room v=(1,R) from if_neg (by rw[hP];simp)]
  (
 refine spec_entry tbOk Tryz.func101 rfl Tryz.ntmps101 Tryz.results101 ?_
 unfold varA
 refine gg (k:= ?_))
  refine cmks (rkey_no v.nm hv.nm v.g hr) Tryz.call146 (hon:=rowu) 0 [] [] [] ?_
  refine gg (k:= ?_)
  intro _
  refine ggO (k:= ?_)
  refine⟨fun _=> ?_,fun h=>absurd h (by simp)⟩
  refine ggO (k:= ?_)
  exact⟨_,rfl,rfl,trivial⟩
 | true=>
  have hT:=tnil_eq v.t
  obtain⟨⟨a1,a2⟩,⟨b1,b2⟩,⟨c1,c2⟩,⟨d1,d2⟩,⟨e1,e2⟩,f1,f2⟩:=id hv.t
  have hm1:=fun(q:v.d.length≤65484)=>mset_vc R hs hok hl (keyV v.nm v.g) (laidV v) (by have:=keyV_len' hr hv.g;omega) (by rw[laid_len hv];omega) room vm
  (
 refine spec_entry tbOk Tryz.func101 rfl Tryz.ntmps101 Tryz.results101 ?_
 unfold varA
 refine gg (k:= ?_))
  refine cmks (rkey_vc v.nm hv.nm v.g hv.g hr) Tryz.call146 (hon:=rowu) 0 [] [] [] ?_
  refine gg (k:= ?_)
  conv=>whnf
  refine gcl (hA:=fun hG=>⟨trivial,hG,trivial⟩) (k:= ?_)
  refine cdet (rtright_vc v.t hv.t) Tryz.call149 (hon:=⟨⟨trivial,trivial,trivial,trivial,trivial,trivial,trivial⟩,trivial⟩) [] ?_
  cases hR:v.t.right with
  | true=>
   refine ggO (k:= ?_)
   rw[hT]
   by_cases hd:v.d.length≤65484
   ·have hP:putOk v=true:=by unfold putOk;rw[hr,hR,decide_eq_true hd];rfl
    rw[decide_eq_false (by omega:¬(65484:Int)< (v.d.length:Int))]
    (
 rw[show rputP R room v=(setE R room (keyV v.nm v.g) (laidV v),setW R room (keyV v.nm v.g) (laidV v)) from if_pos hP]
 refine⟨fun h=>absurd h (by simp),fun _=> ?_⟩
 refine ggO (k:= ?_)
 (refine sts (k:= ?_))
 refine draw_of (p:=2) tbOk hm [0,1,3,7,0,0,32,127,255] [⟨0,false,false,[]⟩,⟨1,true,false,[37,38,39,40,41,42,4]⟩,⟨2,true,false,[38,39,40,41,42,4]⟩,⟨3,true,false,[39,40,41,42,4]⟩,⟨4,false,false,[]⟩,⟨5,true,false,[35,36,37,38,39,41,42,4]⟩,⟨6,true,false,[35,36,37,38,39,42,4]⟩,⟨7,true,true,[4]⟩,⟨8,false,false,[]⟩] (by kernel_rfl) ?_
 refine ggO (k:= ?_)
 refine cmks (rlaid_z 0 v hv (by omega)) Tryz.call150 (hon:=⟨varA_on (x:= .bs 0 v.d) trivial _,trivial⟩) 0 [] [] [] ?_
 refine ggO (k:= ?_)
 refine cmks (hm1 hd) Tryz.call21 1 [1] [0] [] ?_
 refine ggO (k:= ?_)
 exact ⟨_, rfl, rfl, trivial⟩)
   ·have hP:putOk v=false:=by unfold putOk;rw[decide_eq_false hd,Bool.and_false]
    rw[decide_eq_true (by omega:(65484:Int)< (v.d.length:Int)),show rputP R room v=(1,R) from if_neg (by rw[hP];simp)]
    (
 refine⟨fun _=> ?_,fun h=>absurd h (by simp)⟩
 refine ggO (k:= ?_)
 exact⟨_,rfl,rfl,trivial⟩)
  | false=>
   refine ggO (k:= ?_)
   rw[hT]
   cases hz:v.t.nil with
   | false=>
    have hP:putOk v=false:=by unfold putOk;rw[hR,hz,Bool.or_false,Bool.and_false,Bool.false_and]
    rw[show rputP R room v=(1,R) from if_neg (by rw[hP];simp)]
    (
 refine⟨fun _=> ?_,fun h=>absurd h (by simp)⟩
 refine ggO (k:= ?_)
 exact ⟨_, rfl, rfl, trivial⟩)
   | true=>
    by_cases hd:v.d.length≤65484
    ·have hP:putOk v=true:=by unfold putOk;rw[hr,hz,decide_eq_true hd,Bool.or_true];rfl
     rw[decide_eq_false (by omega:¬(65484:Int)< (v.d.length:Int))]
     (
 rw[show rputP R room v=(setE R room (keyV v.nm v.g) (laidV v),setW R room (keyV v.nm v.g) (laidV v)) from if_pos hP]
 refine⟨fun h=>absurd h (by simp),fun _=> ?_⟩
 refine ggO (k:= ?_)
 (refine sts (k:= ?_))
 refine draw_of (p:=2) tbOk hm [0,1,3,7,0,0,32,127,255] [⟨0,false,false,[]⟩,⟨1,true,false,[37,38,39,40,41,42,4]⟩,⟨2,true,false,[38,39,40,41,42,4]⟩,⟨3,true,false,[39,40,41,42,4]⟩,⟨4,false,false,[]⟩,⟨5,true,false,[35,36,37,38,39,41,42,4]⟩,⟨6,true,false,[35,36,37,38,39,42,4]⟩,⟨7,true,true,[4]⟩,⟨8,false,false,[]⟩] (by kernel_rfl) ?_
 refine ggO (k:= ?_)
 refine cmks (rlaid_z 0 v hv (by omega)) Tryz.call150 (hon:=⟨varA_on (x:= .bs 0 v.d) trivial _,trivial⟩) 0 [] [] [] ?_
 refine ggO (k:= ?_)
 refine cmks (hm1 hd) Tryz.call21 1 [1] [0] [] ?_
 refine ggO (k:= ?_)
 exact ⟨_, rfl, rfl, trivial⟩)
    ·have hP:putOk v=false:=by unfold putOk;rw[decide_eq_false hd,Bool.and_false]
     rw[decide_eq_true (by omega:(65484:Int)< (v.d.length:Int)),show rputP R room v=(1,R) from if_neg (by rw[hP];simp)]
     (
 refine⟨fun _=> ?_,fun h=>absurd h (by simp)⟩
 refine ggO (k:= ?_)
 exact⟨_,rfl,rfl,trivial⟩)
theorem rdrop21_vc (nm : ByteArray) (hn : nm.size ≤ 140737488355328) (g : List UInt8) (hg : g.length = 16) (R : List RK) (hs : SortK R) (hl : R.length ≤ 4096) (room : Int) (vb vm : Nat) : Spec Tryz.prog 102 [.ref 0 vb 1 0 0, .val (.string nm), .agg (bytesA 16 g)] [⟨vb, .obj [.ref 1 vm 3 0 0]⟩, ⟨vm, .obj [.sl 0 1 (fun k : List UInt8 => [AV.bs 0 k]) [] (ksR R), .sl 0 1 (fun k : List UInt8 => [AV.bs 0 k]) [] (vsR R), .val (.int .i64 room)]⟩]
   (pms (.val (.int .i64 (rdropP R nm g).1)) [⟨vb,.obj [.ref 1 vm 3 0 0]⟩,⟨vm,.obj [.sl 0 1 (fun k:List UInt8=>[AV.bs 0 k]) [] (ksR (rdropP R nm g).2),.sl 0 1 (fun k:List UInt8=>[AV.bs 0 k]) [] (vsR (rdropP R nm g).2),.val (.int .i64 room)]⟩] []):=by
 cases hr:rightN nm with
 | false=>
  rw[show rdropP R nm g=(1,R) from if_neg (by rw[hr];simp)]
  refine spec_entry tbOk Tryz.func102 rfl Tryz.ntmps102 Tryz.results102 ?_
  refine gg (k:= ?_)
  refine cmks (rkey_no nm hn g hr) Tryz.call146 (hon:=rowu) 0 [] [] [] ?_
  refine gg (k:= ?_)
  exact⟨_,rfl,rfl,trivial⟩
 | true=>
  rw[show rdropP R nm g=(delE R (keyV nm g),delR R (keyV nm g)) from if_pos hr]
  have hD:=mdel_vc R hs hl 0 (keyV nm g) room vm
  refine spec_entry tbOk Tryz.func102 rfl Tryz.ntmps102 Tryz.results102 ?_
  refine gg (k:= ?_)
  refine cmks (rkey_vc nm hn g hg hr) Tryz.call146 (hon:=rowu) 0 [] [] [] ?_
  refine gg (k:= ?_)
  refine cmks (hD) Tryz.call24 1 [1] [0] [] ?_
  refine gg (k:= ?_)
  exact⟨_,rfl,rfl,trivial⟩
theorem rused21_vc(R:List RK)(hok:∀r∈R,OkK r)(hl:R.length≤4096)(room:Int)(vb vm:Nat):Spec Tryz.prog 107 [.ref 0 vb 1 0 0] [⟨vb,.obj [.ref 1 vm 3 0 0]⟩,⟨vm,.obj [.sl 0 1 (fun k:List UInt8=>[AV.bs 0 k]) [] (ksR R),.sl 0 1 (fun k:List UInt8=>[AV.bs 0 k]) [] (vsR R),.val (.int .i64 room)]⟩] (pms (.val (.int .i64 (usedK R:Int))) [⟨vb,.obj [.ref 1 vm 3 0 0]⟩,⟨vm,.obj [.sl 0 1 (fun k:List UInt8=>[AV.bs 0 k]) [] (ksR R),.sl 0 1 (fun k:List UInt8=>[AV.bs 0 k]) [] (vsR R),.val (.int .i64 room)]⟩] []):=by
 refine spec_entry tbOk Tryz.func107 rfl Tryz.ntmps107 Tryz.results107 ?_
 refine gg (k:= ?_)
 refine cmks (mused_vc R hok hl room vm) Tryz.call75 1 [1] [0] [] ?_
 refine gg (k:= ?_)
 exact⟨_,rfl,rfl,trivial⟩
theorem rnew21_vc(room:Int):Spec Tryz.prog 51 [.val (.int .i64 room)] [] (pms (.ref 7 1 1 0 0) [] [(7,⟨1,.obj [.ref 5 1 3 0 0]⟩),(5,⟨1,.obj [.val (.slice none 0 0),.val (.slice none 0 0),.val (.int .i64 room)]⟩)]):=by
 refine spec_entry tbOk Tryz.func51 rfl Tryz.ntmps51 Tryz.results51 ?_
 refine gg (k:= ?_)
 exact⟨_,rfl,rfl,rfl,rfl,trivial⟩
theorem rnote21_vc (x : Int) (hx : 0 ≤ x ∧ x ≤ 255) (R : List RK) (hs : SortK R) (hok : ∀ r ∈ R, OkK r) (hl : R.length ≤ 4096) (room : Int) (vb vm : Nat) : Spec Tryz.prog 105 [.ref 0 vb 1 0 0, .val (.int .u8 x)] [⟨vb, .obj [.ref 1 vm 3 0 0]⟩, ⟨vm, .obj [.sl 0 1 (fun k : List UInt8 => [AV.bs 0 k]) [] (ksR R), .sl 0 1 (fun k : List UInt8 => [AV.bs 0 k]) [] (vsR R), .val (.int .i64 room)]⟩]
   (pms (.val (.int .i64 (setE R room markK [u8 x]))) [⟨vb,.obj [.ref 1 vm 3 0 0]⟩,⟨vm,.obj [.sl 0 1 (fun k:List UInt8=>[AV.bs 0 k]) [] (ksR (setW R room markK [u8 x])),.sl 0 1 (fun k:List UInt8=>[AV.bs 0 k]) [] (vsR (setW R room markK [u8 x])),.val (.int .i64 room)]⟩] []):=by
 have hm1:=mset_vc R hs hok hl markK [u8 x] (by decide) (by show(1:Nat)≤_;decide) room vm
 refine spec_entry tbOk Tryz.func105 rfl Tryz.ntmps105 Tryz.results105 ?_
 refine gg (k:= ?_)
 conv=>whnf
 refine callK_frz 11 (er:=⟨1,.bytes markK⟩) rfl (args':=[.ref 1 vm 3 0 0,.bs 0 markK,.own 14 1 1 0 1]) (AFL.cons AF.same (AFL.cons (AF.own (l:=markK) rfl rfl) (AFL.cons AF.same AFL.nil))) ?_
 refine callK_frz 14 (er:=⟨1,.bytes [u8 x]⟩) rfl (args':=[.ref 1 vm 3 0 0,.bs 0 markK,.bs 0 [u8 x]]) (AFL.cons AF.same (AFL.cons AF.same (AFL.cons (AF.own (l:=[u8 x]) rfl rfl) AFL.nil))) ?_
 refine cmks (hm1) Tryz.call21 1 [1] [0] [] ?_
 refine gg (k:= ?_)
 exact⟨_,rfl,rfl,trivial⟩
end Go.Proofs.YtpbpiehcchannaaGreatDoor
