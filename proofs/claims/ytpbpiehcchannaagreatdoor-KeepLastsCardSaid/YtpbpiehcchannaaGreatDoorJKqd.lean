/- Walks of lintelref21: Get. Walks of lintelref21: Put, Drop, Next, Mark, SetMark, Used, New, Copy. Conditions: the premises of each law. -/
import Derived.Test.YtpbpiehcchannaaGreatDoorJKqc
namespace Go.Proofs.YtpbpiehcchannaaGreatDoor
set_option linter.unusedVariables false
set_option linter.unusedSimpArgs false
set_option maxRecDepth 100000
set_option maxHeartbeats 1500000
open Go.RowKit
theorem JC:∀(ks:List (List UInt8))(key:List UInt8),cV ks key<ks.length→ks.getD (cV ks key) []=key
 | [],_,h=>by simp at h
 | k::ks,key,h=>by
  unfold cV at h⊢
  by_cases q:k=key
  ·rw[if_pos q];exact q
  ·rw[if_neg q] at h⊢
   rw[Nat.add_comm,List.getD_cons_succ]
   exact JC ks key (by simp only[List.length_cons] at h;omega)
theorem JD{R:List RK}(hs:cP R){r:RK}(hr:r∈R):∃j:Nat,j<R.length∧kE (av R) r.key=(j:Int)∧(aL R).getD j []=r.val∧(av R).getD j []=r.key:=by
 have h1:cV (av R) r.key<R.length:=(qY R r.key).2 ⟨r,hr,rfl⟩
 have hk:=JC (av R) r.key (by rw[gB];exact h1)
 refine⟨cV (av R) r.key,h1,?_,?_,hk⟩
 ·unfold kE
  rw[if_pos (by rw[gB];exact h1)]
 ·generalize cV (av R) r.key=j at h1 hk
  have e1:(av R).getD j []=R[j].key:=by unfold av;rw[List.getD_eq_getElem?_getD,List.getElem?_map,List.getElem?_eq_getElem h1];rfl
  have e2:(aL R).getD j []=R[j].val:=by unfold aL;rw[List.getD_eq_getElem?_getD,List.getElem?_map,List.getElem?_eq_getElem h1];rfl
  rw[e1] at hk
  rw[e2,hs.one (List.getElem_mem h1) hr hk]
theorem JE{R:List RK}{key:List UInt8}(h:∀r∈R,r.key≠key):kE (av R) key= -1:=by
 unfold kE
 rw[if_neg (by rw[gB,qY];rintro⟨r,hr,e⟩;exact h r hr e)]
theorem RP (nm : ByteArray) (hn : nm.size ≤ 140737488355328) (g : List UInt8) (hr : bM nm = false) (R : List RK) (room : Int) (vb vm : Nat) : Spec Tryz.prog 100 [.ref 0 vb 1 0 0, .val (.string nm), .agg (bC 16 g)] [⟨vb, .obj [.ref 1 vm 3 0 0]⟩, ⟨vm, .obj [.sl 0 1 (fun k : List UInt8 => [AV.bs 0 k]) [] (av R), .sl 0 1 (fun k : List UInt8 => [AV.bs 0 k]) [] (aL R), .val (.int .i64 room)]⟩]
   (ak (.aD [.agg (aV (.val (.slice none 0 0)) aK),.val (.bool false),.val (.int .i64 1)]) [⟨vb,.obj [.ref 1 vm 3 0 0]⟩,⟨vm,.obj [.sl 0 1 (fun k:List UInt8=>[AV.bs 0 k]) [] (av R),.sl 0 1 (fun k:List UInt8=>[AV.bs 0 k]) [] (aL R),.val (.int .i64 room)]⟩] []):=by
 refine ax ai Tryz.func100 rfl Tryz.ntmps100 Tryz.results100 ?_
 refine gg ?_
 refine af (yS nm hn g hr) Tryz.call146 (hon:=cH) 0 [] [] [] ?_
 refine gg ?_
 exact⟨_,rfl,rfl,trivial⟩
theorem RQ (nm : ByteArray) (hn : nm.size ≤ 140737488355328) (g : List UInt8) (hg : g.length = 16) (hr : bM nm = true) (R : List RK) (hl : R.length ≤ 4096) (hm : ∀ r ∈ R, r.key ≠ aO nm g) (room : Int) (vb vm : Nat) : Spec Tryz.prog 100 [.ref 0 vb 1 0 0, .val (.string nm), .agg (bC 16 g)] [⟨vb, .obj [.ref 1 vm 3 0 0]⟩, ⟨vm, .obj [.sl 0 1 (fun k : List UInt8 => [AV.bs 0 k]) [] (av R), .sl 0 1 (fun k : List UInt8 => [AV.bs 0 k]) [] (aL R), .val (.int .i64 room)]⟩]
   (ak (.aD [.agg (aV (.val (.slice none 0 0)) aK),.val (.bool false),.val (.int .i64 0)]) [⟨vb,.obj [.ref 1 vm 3 0 0]⟩,⟨vm,.obj [.sl 0 1 (fun k:List UInt8=>[AV.bs 0 k]) [] (av R),.sl 0 1 (fun k:List UInt8=>[AV.bs 0 k]) [] (aL R),.val (.int .i64 room)]⟩] []):=by
 have hA:=CZ R hl 0 (aO nm g) room vm
 rw[JE hm] at hA
 refine ax ai Tryz.func100 rfl Tryz.ntmps100 Tryz.results100 ?_
 refine gg ?_
 refine af (wk nm hn g hg hr) Tryz.call146 (hon:=cH) 0 [] [] [] ?_
 refine gg ?_
 refine af (hA) Tryz.call29 1 [1] [0] [] ?_
 refine gg ?_
 exact⟨_,rfl,rfl,trivial⟩
theorem RR(p q r:List AV)(j:Nat)(y:AV)(h:j<q.length):eY (p++(q++r)) (p.length+j) [y]=p++(eY q j [y]++r):=by
 unfold eY
 rw[js,jr,js,jr,List.take_length_add_append,Nat.add_assoc,List.drop_length_add_append,List.take_append_of_le_length (by omega),List.drop_append_of_le_length (by show j+1≤q.length;omega)]
 simp
theorem RT(x:AV)(v:aU)(i:Nat)(hi:i<32)(b:UInt8)(hb:b=v.ow.getD i 0):eY (aV x ⟨v.nm,v.g,v.at_,v.t,v.ow.take i,v.d⟩) (24+(i:Int).toNat*1) [.val (.int .u8 ((b.toNat:Nat):Int))]=aV x ⟨v.nm,v.g,v.at_,v.t,v.ow.take (i+1),v.d⟩:=by
 have e:∀l:List UInt8,aV x ⟨v.nm,v.g,v.at_,v.t,l,v.d⟩=([.val (.string v.nm)]++(bC 16 v.g++([.val (.int .u32 v.at_)]++v.t.cells)))++(bC 32 l++[x]):=fun l=>rfl
 have hp:([.val (.string v.nm)]++(bC 16 v.g++([.val (.int .u32 v.at_)]++v.t.cells)):List AV).length=24:=rfl
 rw[e,e]
 generalize ([.val (.string v.nm)]++(bC 16 v.g++([.val (.int .u32 v.at_)]++v.t.cells)):List AV)=p at hp⊢
 have h1:=RR p (bC 32 (v.ow.take i)) [x] i (.val (.int .u8 ((b.toNat:Nat):Int))) (by show i<32;exact hi)
 rw[show 24+(i:Int).toNat*1=p.length+i by omega,h1]
 have h2:=Ju (n:=32) v.ow i hi
 rw[show 0+(i:Int).toNat*1=i by omega,Int.toNat_natCast,←hb] at h2
 rw[h2]
theorem RU(v:aU)(how:v.ow.length=32)(i:Nat)(hi:i<32):(bh v).getD (20+(i:Int)).toNat 0=v.ow.getD i 0:=by
 have hT:v.t.bytes.length=16:=by simp[Tm.bytes,ec]
 have kj:=ec 4 v.at_
 rw[show(20+(i:Int)).toNat=20+i by omega]
 unfold bh
 rw[List.append_assoc,List.getD_eq_getElem?_getD,List.getD_eq_getElem?_getD,List.getElem?_append_right (by rw[List.length_append,hT,kj];omega),List.length_append,hT,kj,show 20+i - (4+16)=i by omega,List.getElem?_append_left (by omega)]
theorem RV (v : aU) (hv : gq v) (R : List RK) (hs : cP R) (hl : R.length ≤ 4096) (kB : gE v ∈ R) (room : Int) (vb vm : Nat) : Spec Tryz.prog 100 [.ref 0 vb 1 0 0, .val (.string v.nm), .agg (bC 16 v.g)] [⟨vb, .obj [.ref 1 vm 3 0 0]⟩, ⟨vm, .obj [.sl 0 1 (fun k : List UInt8 => [AV.bs 0 k]) [] (av R), .sl 0 1 (fun k : List UInt8 => [AV.bs 0 k]) [] (aL R), .val (.int .i64 room)]⟩]
   (ak (.aD [.agg (aV (.own 72 2 1 0 v.d.length) v),.val (.bool true),.val (.int .i64 0)]) [⟨vb,.obj [.ref 1 vm 3 0 0]⟩,⟨vm,.obj [.sl 0 1 (fun k:List UInt8=>[AV.bs 0 k]) [] (av R),.sl 0 1 (fun k:List UInt8=>[AV.bs 0 k]) [] (aL R),.val (.int .i64 room)]⟩] [(72,⟨2,.bytes v.d⟩)]):=by
 obtain⟨cq,hr,ht,hd⟩:=hv
 obtain⟨I3,hg,ha,Vj,how,ef⟩:=cq
 obtain⟨j,j1,j2,j3,_⟩:=JD hs kB
 have hA:=CZ R hl 0 (aO v.nm v.g) room vm
 rw[show kE (av R) (aO v.nm v.g)=(j:Int) from j2] at hA
 have j3:(aL R).getD j []=bh v:=j3
 have dS:=sY R
 have hT:v.t.bytes.length=16:=by simp[Tm.bytes,ec]
 have kj:=ec 4 v.at_
 have hlen:(bh v).length=52+v.d.length:=by unfold bh;simp only[List.length_append,hT,kj,how]
 have e4:(bh v).take 4=bz 4 v.at_:=by unfold bh;rw[List.append_assoc,List.append_assoc];exact List.take_left' kj
 have Dt:((bh v).take 20).drop 4=v.t.bytes:=by
  unfold bh
  rw[List.append_assoc,List.append_assoc,←List.append_assoc,List.take_left' (by rw[List.length_append,hT,kj]),List.drop_left' kj]
 have ed:(bh v).drop 52=v.d:=by
  unfold bh
  rw[List.drop_left' (by rw[List.length_append,List.length_append,hT,kj,how])]
 refine ax ai Tryz.func100 rfl Tryz.ntmps100 Tryz.results100 ?_
 refine gg ?_
 refine af (wk v.nm I3 v.g hg hr) Tryz.call146 (hon:=cH) 0 [] [] [] ?_
 refine gg ?_
 refine af (hA) Tryz.call29 1 [1] [0] [] ?_
 refine gg ?_
 rw[show(aL R).getD (Int.toNat (j:Int)) []=bh v by rw[Int.toNat_natCast];exact j3]
 rw[hlen]
 refine gg ?_
 rw[decide_eq_false (by omega:¬((52+v.d.length:Nat):Int)<52)]
 refine gg ?_
 refine af (RJ 0 (bh v) (by omega) (by omega) v.at_ ha e4) Tryz.call147 0 [] [] [] ?_
 refine gg ?_
 rw[show List.drop (Int.toNat 4) (List.take (Int.toNat 20) (bh v))=v.t.bytes from Dt]
 refine aY (RA v.t ht 0) Tryz.call148 (hX:=⟨⟨trivial,trivial,trivial,trivial,trivial,trivial,trivial⟩,trivial,trivial⟩) [] ?_
 refine gg ?_
 (refine aH ?_)
 refine bL (p:=2) ai hm [0,0,0,4,0,0,0,64,224,511,0,2047] [⟨0,false,false,[]⟩,⟨1,false,false,[5]⟩,⟨2,false,false,[]⟩,⟨3,false,false,[]⟩,⟨4,false,false,[16]⟩,⟨5,false,false,[70]⟩,⟨6,false,false,[]⟩,⟨7,false,false,[]⟩,⟨8,true,true,[16,5,65,66,67,68,69,74,17]⟩,⟨9,false,false,[70]⟩,⟨10,false,false,[17]⟩,⟨11,true,true,[]⟩] (by kernel_rfl) ?_
 refine gg ?_
 conv=>whnf
 refine⟨v.d,?_⟩
 conv=>whnf
 refine And.intro ⟨rfl,trivial,rfl,rfl,rfl,rfl,rfl,(by rw[Int.toNat_natCast,List.take_length];exact congrArg dJ ed),(by show(0+v.d.length)*1≤_;omega),by decide⟩ ?_
 rw[show(List.map (fun n:Int=>UInt8.ofNat n.toNat) []).length+v.d.length=v.d.length from Nat.zero_add _]
 refine gg ?_
 rw[show v.at_%4294967296=v.at_ by omega]
 (refine aH ?_)
 conv=>whnf
 refine cE (fun i:Nat=>i≤32) (fun i=>32 - i) 2 [18,75,76,77,78,79,80,81,82,83,84,85,86] (fun i=>[(18,.val (.int .i64 (i:Int)))]) (fun i=>[(19,⟨1,.obj (aV (.own 72 2 1 0 v.d.length) ⟨v.nm,v.g,v.at_,v.t,v.ow.take i,v.d⟩)⟩)]) 0 (Nat.zero_le _) ?_ ?_ ?_
 ·exact no_implicit_lambda%ten
 ·exact no_implicit_lambda%b6
 ·rintro i w i1
  refine cF ?_
  refine gg ?_
  refine⟨fun h=> ?_,fun h=> ?_⟩
  ·have hi:i<32:=by have:=of_decide_eq_true h;omega
   refine gg ?_
   conv=>whnf
   refine And.intro ⟨rfl,rfl,⟨rfl,trivial⟩,rfl,by show 24+(i:Int).toNat*1+1≤57;omega⟩ ?_
   dsimp only[bc,aJ,aM,bu,dO,bF,bb,eU]
   rw[RT (.own 72 2 1 0 v.d.length) v i hi ((bh v).getD (20+(i:Int)).toNat 0) (RU v how i hi)]
   refine gg ?_
   exact bk (i+1) hi (by show 32 - (i+1)<32 - i;omega)
  ·have hi:i=32:=by have:=of_decide_eq_false h;omega
   subst hi
   rw[List.take_of_length_le (by omega:v.ow.length≤32)]
   refine gg ?_
   exact⟨_,rfl,rfl,rfl,trivial⟩
theorem RW{nm:ByteArray}{g:List UInt8}(h:bM nm=true)(hg:g.length=16):1≤(aO nm g).length∧(aO nm g).length≤255:=by
 unfold bM at h
 simp only[Bool.and_eq_true,decide_eq_true_eq] at h
 unfold aO
 rw[List.length_append,hg]
 simp only[Array.length_toList,ByteArray.size_data]
 omega
theorem JF (v : aU) (hv : gq v) (R : List RK) (hs : cP R) (hl : R.length ≤ 4096) (kB : gE v ∈ R) (room : Int) (vb vm : Nat) : Spec Tryz.prog 100 [.ref 0 vb 1 0 0, .val (.string v.nm), .agg (bC 16 v.g)] [⟨vb, .obj [.ref 1 vm 3 0 0]⟩, ⟨vm, .obj [.sl 0 1 (fun k : List UInt8 => [AV.bs 0 k]) [] (av R), .sl 0 1 (fun k : List UInt8 => [AV.bs 0 k]) [] (aL R), .val (.int .i64 room)]⟩]
   (ak (.aD [.agg (aV (.bs 0 v.d) v),.val (.bool true),.val (.int .i64 0)]) [⟨vb,.obj [.ref 1 vm 3 0 0]⟩,⟨vm,.obj [.sl 0 1 (fun k:List UInt8=>[AV.bs 0 k]) [] (av R),.sl 0 1 (fun k:List UInt8=>[AV.bs 0 k]) [] (aL R),.val (.int .i64 room)]⟩] []):=
 ix (RV v hv R hs hl kB room vb vm) (by simp[eM]) (AF.aD (aZ.cons (AF.agg (JG (AF.own rfl rfl) v)) (aZ.cons AF.same (aZ.cons AF.same aZ.nil)))) ⟨rfl,BF.same,rfl,BF.same,trivial⟩
theorem RX(v:aU)(hv:v.Ok)(R:List RK)(hs:cP R)(cq:∀r∈R,fJ r)(hl:R.length≤4096)(room:Int)(vb vm:Nat):Spec Tryz.prog 101 [.ref 0 vb 1 0 0,.agg (aV (.bs 0 v.d) v)] [⟨vb,.obj [.ref 1 vm 3 0 0]⟩,⟨vm,.obj [.sl 0 1 (fun k:List UInt8=>[AV.bs 0 k]) [] (av R),.sl 0 1 (fun k:List UInt8=>[AV.bs 0 k]) [] (aL R),.val (.int .i64 room)]⟩] (ak (.val (.int .i64 (gW R room v).1)) [⟨vb,.obj [.ref 1 vm 3 0 0]⟩,⟨vm,.obj [.sl 0 1 (fun k:List UInt8=>[AV.bs 0 k]) [] (av (gW R room v).2),.sl 0 1 (fun k:List UInt8=>[AV.bs 0 k]) [] (aL (gW R room v).2),.val (.int .i64 room)]⟩] []):=by
 cases hr:bM v.nm with
 | false=>
  have hP:fA v=false:=by unfold fA;rw[hr];rfl
  rw[show gW R room v=(1,R) from if_neg (by rw[hP];simp)]
  (
 refine ax ai Tryz.func101 rfl Tryz.ntmps101 Tryz.results101 ?_
 unfold aV
 refine gg ?_)
  refine af (yS v.nm hv.nm v.g hr) Tryz.call146 (hon:=cH) 0 [] [] [] ?_
  refine gg ?_
  intro _
  refine aE ?_
  refine⟨fun _=> ?_,fun h=>absurd h (by simp)⟩
  refine aE ?_
  exact⟨_,rfl,rfl,trivial⟩
 | true=>
  have hT:=Ji v.t
  obtain⟨⟨a1,a2⟩,⟨b1,b2⟩,⟨c1,c2⟩,⟨d1,d2⟩,⟨e1,e2⟩,f1,f2⟩:=id hv.t
  have lY:=fun(q:v.d.length≤65484)=>Ic R hs cq hl (aO v.nm v.g) (bh v) (by have:=RW hr hv.g;omega) (by rw[te hv];omega) room vm
  (
 refine ax ai Tryz.func101 rfl Tryz.ntmps101 Tryz.results101 ?_
 unfold aV
 refine gg ?_)
  refine af (wk v.nm hv.nm v.g hv.g hr) Tryz.call146 (hon:=cH) 0 [] [] [] ?_
  refine gg ?_
  conv=>whnf
  refine ji (hA:=fun hG=>⟨trivial,hG,trivial⟩) (k:= ?_)
  refine aY (Jw v.t hv.t) Tryz.call149 (hon:=⟨⟨trivial,trivial,trivial,trivial,trivial,trivial,trivial⟩,trivial⟩) [] ?_
  cases hR:v.t.right with
  | true=>
   refine aE ?_
   rw[hT]
   by_cases hd:v.d.length≤65484
   ·have hP:fA v=true:=by unfold fA;rw[hr,hR,decide_eq_true hd];rfl
    rw[decide_eq_false (by omega:¬(65484:Int)< (v.d.length:Int))]
    (
 rw[show gW R room v=(fh R room (aO v.nm v.g) (bh v),eP R room (aO v.nm v.g) (bh v)) from if_pos hP]
 refine⟨fun h=>absurd h (by simp),fun _=> ?_⟩
 refine aE ?_
 (refine aH ?_)
 refine bL (p:=2) ai hm [0,1,3,7,0,0,32,127,255] [⟨0,false,false,[]⟩,⟨1,true,false,[37,38,39,40,41,42,4]⟩,⟨2,true,false,[38,39,40,41,42,4]⟩,⟨3,true,false,[39,40,41,42,4]⟩,⟨4,false,false,[]⟩,⟨5,true,false,[35,36,37,38,39,41,42,4]⟩,⟨6,true,false,[35,36,37,38,39,42,4]⟩,⟨7,true,true,[4]⟩,⟨8,false,false,[]⟩] (by kernel_rfl) ?_
 refine aE ?_
 refine af (JB 0 v hv (by omega)) Tryz.call150 (hon:=⟨nI (x:= .bs 0 v.d) trivial _,trivial⟩) 0 [] [] [] ?_
 refine aE ?_
 refine af (lY hd) Tryz.call21 1 [1] [0] [] ?_
 refine aE ?_
 exact ⟨_, rfl, rfl, trivial⟩)
   ·have hP:fA v=false:=by unfold fA;rw[decide_eq_false hd,Bool.and_false]
    rw[decide_eq_true (by omega:(65484:Int)< (v.d.length:Int)),show gW R room v=(1,R) from if_neg (by rw[hP];simp)]
    (
 refine⟨fun _=> ?_,fun h=>absurd h (by simp)⟩
 refine aE ?_
 exact⟨_,rfl,rfl,trivial⟩)
  | false=>
   refine aE ?_
   rw[hT]
   cases hz:v.t.nil with
   | false=>
    have hP:fA v=false:=by unfold fA;rw[hR,hz,Bool.or_false,Bool.and_false,Bool.false_and]
    rw[show gW R room v=(1,R) from if_neg (by rw[hP];simp)]
    (
 refine⟨fun _=> ?_,fun h=>absurd h (by simp)⟩
 refine aE ?_
 exact ⟨_, rfl, rfl, trivial⟩)
   | true=>
    by_cases hd:v.d.length≤65484
    ·have hP:fA v=true:=by unfold fA;rw[hr,hz,decide_eq_true hd,Bool.or_true];rfl
     rw[decide_eq_false (by omega:¬(65484:Int)< (v.d.length:Int))]
     (
 rw[show gW R room v=(fh R room (aO v.nm v.g) (bh v),eP R room (aO v.nm v.g) (bh v)) from if_pos hP]
 refine⟨fun h=>absurd h (by simp),fun _=> ?_⟩
 refine aE ?_
 (refine aH ?_)
 refine bL (p:=2) ai hm [0,1,3,7,0,0,32,127,255] [⟨0,false,false,[]⟩,⟨1,true,false,[37,38,39,40,41,42,4]⟩,⟨2,true,false,[38,39,40,41,42,4]⟩,⟨3,true,false,[39,40,41,42,4]⟩,⟨4,false,false,[]⟩,⟨5,true,false,[35,36,37,38,39,41,42,4]⟩,⟨6,true,false,[35,36,37,38,39,42,4]⟩,⟨7,true,true,[4]⟩,⟨8,false,false,[]⟩] (by kernel_rfl) ?_
 refine aE ?_
 refine af (JB 0 v hv (by omega)) Tryz.call150 (hon:=⟨nI (x:= .bs 0 v.d) trivial _,trivial⟩) 0 [] [] [] ?_
 refine aE ?_
 refine af (lY hd) Tryz.call21 1 [1] [0] [] ?_
 refine aE ?_
 exact ⟨_, rfl, rfl, trivial⟩)
    ·have hP:fA v=false:=by unfold fA;rw[decide_eq_false hd,Bool.and_false]
     rw[decide_eq_true (by omega:(65484:Int)< (v.d.length:Int)),show gW R room v=(1,R) from if_neg (by rw[hP];simp)]
     (
 refine⟨fun _=> ?_,fun h=>absurd h (by simp)⟩
 refine aE ?_
 exact⟨_,rfl,rfl,trivial⟩)
theorem RY (nm : ByteArray) (hn : nm.size ≤ 140737488355328) (g : List UInt8) (hg : g.length = 16) (R : List RK) (hs : cP R) (hl : R.length ≤ 4096) (room : Int) (vb vm : Nat) : Spec Tryz.prog 102 [.ref 0 vb 1 0 0, .val (.string nm), .agg (bC 16 g)] [⟨vb, .obj [.ref 1 vm 3 0 0]⟩, ⟨vm, .obj [.sl 0 1 (fun k : List UInt8 => [AV.bs 0 k]) [] (av R), .sl 0 1 (fun k : List UInt8 => [AV.bs 0 k]) [] (aL R), .val (.int .i64 room)]⟩]
   (ak (.val (.int .i64 (jO R nm g).1)) [⟨vb,.obj [.ref 1 vm 3 0 0]⟩,⟨vm,.obj [.sl 0 1 (fun k:List UInt8=>[AV.bs 0 k]) [] (av (jO R nm g).2),.sl 0 1 (fun k:List UInt8=>[AV.bs 0 k]) [] (aL (jO R nm g).2),.val (.int .i64 room)]⟩] []):=by
 cases hr:bM nm with
 | false=>
  rw[show jO R nm g=(1,R) from if_neg (by rw[hr];simp)]
  refine ax ai Tryz.func102 rfl Tryz.ntmps102 Tryz.results102 ?_
  refine gg ?_
  refine af (yS nm hn g hr) Tryz.call146 (hon:=cH) 0 [] [] [] ?_
  refine gg ?_
  exact⟨_,rfl,rfl,trivial⟩
 | true=>
  rw[show jO R nm g=(ov R (aO nm g),eO R (aO nm g)) from if_pos hr]
  have hD:=Pq R hs hl 0 (aO nm g) room vm
  refine ax ai Tryz.func102 rfl Tryz.ntmps102 Tryz.results102 ?_
  refine gg ?_
  refine af (wk nm hn g hg hr) Tryz.call146 (hon:=cH) 0 [] [] [] ?_
  refine gg ?_
  refine af (hD) Tryz.call24 1 [1] [0] [] ?_
  refine gg ?_
  exact⟨_,rfl,rfl,trivial⟩
theorem RZ(R:List RK)(cq:∀r∈R,fJ r)(hl:R.length≤4096)(room:Int)(vb vm:Nat):Spec Tryz.prog 107 [.ref 0 vb 1 0 0] [⟨vb,.obj [.ref 1 vm 3 0 0]⟩,⟨vm,.obj [.sl 0 1 (fun k:List UInt8=>[AV.bs 0 k]) [] (av R),.sl 0 1 (fun k:List UInt8=>[AV.bs 0 k]) [] (aL R),.val (.int .i64 room)]⟩] (ak (.val (.int .i64 (aP R:Int))) [⟨vb,.obj [.ref 1 vm 3 0 0]⟩,⟨vm,.obj [.sl 0 1 (fun k:List UInt8=>[AV.bs 0 k]) [] (av R),.sl 0 1 (fun k:List UInt8=>[AV.bs 0 k]) [] (aL R),.val (.int .i64 room)]⟩] []):=by
 refine ax ai Tryz.func107 rfl Tryz.ntmps107 Tryz.results107 ?_
 refine gg ?_
 refine af (Pr R cq hl room vm) Tryz.call75 1 [1] [0] [] ?_
 refine gg ?_
 exact⟨_,rfl,rfl,trivial⟩
theorem R0(R:List RK)(hl:R.length≤4096)(room:Int)(vb vm:Nat):Spec Tryz.prog 63 [.ref 0 vb 1 0 0] [⟨vb,.obj [.ref 1 vm 3 0 0]⟩,⟨vm,.obj [.sl 0 1 (fun k:List UInt8=>[AV.bs 0 k]) [] (av R),.sl 0 1 (fun k:List UInt8=>[AV.bs 0 k]) [] (aL R),.val (.int .i64 room)]⟩] (ak (.ref 11 1 1 0 0) [⟨vb,.obj [.ref 1 vm 3 0 0]⟩,⟨vm,.obj [.sl 0 1 (fun k:List UInt8=>[AV.bs 0 k]) [] (av R),.sl 0 1 (fun k:List UInt8=>[AV.bs 0 k]) [] (aL R),.val (.int .i64 room)]⟩] [(11,⟨1,.obj [.ref 9 2 3 0 0]⟩),(9,⟨2,.obj [.sl 0 1 (fun k:List UInt8=>[AV.bs 0 k]) [] (av R),.sl 0 1 (fun k:List UInt8=>[AV.bs 0 k]) [] (aL R),.val (.int .i64 room)]⟩)]):=by
 refine ax ai Tryz.func63 rfl Tryz.ntmps63 Tryz.results63 ?_
 refine gg ?_
 refine af (Ps R hl room vm) Tryz.call20 1 [1,0,0,0,0,0,0,0,0,0,0,0,0,0,0,0,0,0,0,0,0,9] [0,0,0,0,0,0,0,0,0,0,0,0,0,0,0,0,0,0,0,0,0,1] [21] ?_
 refine gg ?_
 exact⟨_,rfl,rfl,rfl,rfl,trivial⟩
theorem R1(room:Int):Spec Tryz.prog 51 [.val (.int .i64 room)] [] (ak (.ref 7 1 1 0 0) [] [(7,⟨1,.obj [.ref 5 1 3 0 0]⟩),(5,⟨1,.obj [.val (.slice none 0 0),.val (.slice none 0 0),.val (.int .i64 room)]⟩)]):=by
 refine ax ai Tryz.func51 rfl Tryz.ntmps51 Tryz.results51 ?_
 refine gg ?_
 exact⟨_,rfl,rfl,rfl,rfl,trivial⟩
theorem R4 (x : Int) (hx : 0 ≤ x ∧ x ≤ 255) (R : List RK) (hs : cP R) (cq : ∀ r ∈ R, fJ r) (hl : R.length ≤ 4096) (room : Int) (vb vm : Nat) : Spec Tryz.prog 105 [.ref 0 vb 1 0 0, .val (.int .u8 x)] [⟨vb, .obj [.ref 1 vm 3 0 0]⟩, ⟨vm, .obj [.sl 0 1 (fun k : List UInt8 => [AV.bs 0 k]) [] (av R), .sl 0 1 (fun k : List UInt8 => [AV.bs 0 k]) [] (aL R), .val (.int .i64 room)]⟩]
   (ak (.val (.int .i64 (fh R room bQ [u8 x]))) [⟨vb,.obj [.ref 1 vm 3 0 0]⟩,⟨vm,.obj [.sl 0 1 (fun k:List UInt8=>[AV.bs 0 k]) [] (av (eP R room bQ [u8 x])),.sl 0 1 (fun k:List UInt8=>[AV.bs 0 k]) [] (aL (eP R room bQ [u8 x])),.val (.int .i64 room)]⟩] []):=by
 have lY:=Ic R hs cq hl bQ [u8 x] (by decide) (by show(1:Nat)≤_;decide) room vm
 refine ax ai Tryz.func105 rfl Tryz.ntmps105 Tryz.results105 ?_
 refine gg ?_
 conv=>whnf
 refine yp 11 (er:=⟨1,.bytes bQ⟩) rfl (args':=[.ref 1 vm 3 0 0,.bs 0 bQ,.own 14 1 1 0 1]) (aZ.cons AF.same (aZ.cons (AF.own (l:=bQ) rfl rfl) (aZ.cons AF.same aZ.nil))) ?_
 refine yp 14 (er:=⟨1,.bytes [u8 x]⟩) rfl (args':=[.ref 1 vm 3 0 0,.bs 0 bQ,.bs 0 [u8 x]]) (aZ.cons AF.same (aZ.cons AF.same (aZ.cons (AF.own (l:=[u8 x]) rfl rfl) aZ.nil))) ?_
 refine af (lY) Tryz.call21 1 [1] [0] [] ?_
 refine gg ?_
 exact⟨_,rfl,rfl,trivial⟩
end Go.Proofs.YtpbpiehcchannaaGreatDoor
