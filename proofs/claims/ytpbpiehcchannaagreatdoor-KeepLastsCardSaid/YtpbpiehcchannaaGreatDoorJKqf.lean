/- Walks of lintellaw21: meant. Walks of lintellaw21: sameTold, holds. Conditions: the premises of each law. -/
import Derived.Test.YtpbpiehcchannaaGreatDoorJKqe
namespace Go.Proofs.YtpbpiehcchannaaGreatDoor
set_option linter.unusedVariables false
set_option linter.unusedSimpArgs false
set_option maxRecDepth 100000
set_option maxHeartbeats 3000000
open Go.RowKit
theorem DG(X:AV)(hX:X= .val (.slice none 0 0)∨∃l,X= .bs 0 l)(o:du)(ho:o.Ok)(hK:o.K=0)(R:List RK)(room:Int)(vb vm:Nat)(r:aU)(is:Bool)(e:Int)(hG:Spec Tryz.prog 100 [.ref 0 vb 1 0 0,.val (.string o.v.nm),.agg (bC 16 o.v.g)] [⟨vb,.obj [.ref 1 vm 3 0 0]⟩,⟨vm,.obj [.sl 0 1 (fun k:List UInt8=>[AV.bs 0 k]) [] (av R),.sl 0 1 (fun k:List UInt8=>[AV.bs 0 k]) [] (aL R),.val (.int .i64 room)]⟩] (ak (.aD [.agg (aV X r),.val (.bool is),.val (.int .i64 e)]) [⟨vb,.obj [.ref 1 vm 3 0 0]⟩,⟨vm,.obj [.sl 0 1 (fun k:List UInt8=>[AV.bs 0 k]) [] (av R),.sl 0 1 (fun k:List UInt8=>[AV.bs 0 k]) [] (aL R),.val (.int .i64 room)]⟩] [])):Spec Tryz.prog 53 [.ref 0 vb 1 0 0,.agg (bY o)] [⟨vb,.obj [.ref 1 vm 3 0 0]⟩,⟨vm,.obj [.sl 0 1 (fun k:List UInt8=>[AV.bs 0 k]) [] (av R),.sl 0 1 (fun k:List UInt8=>[AV.bs 0 k]) [] (aL R),.val (.int .i64 room)]⟩] (ak (.agg (fC X r 0 is e)) [⟨vb,.obj [.ref 1 vm 3 0 0]⟩,⟨vm,.obj [.sl 0 1 (fun k:List UInt8=>[AV.bs 0 k]) [] (av R),.sl 0 1 (fun k:List UInt8=>[AV.bs 0 k]) [] (aL R),.val (.int .i64 room)]⟩] []):=by
 (
 obtain⟨K,u,x⟩:=o
 have hu:=ho.v
 have hx:=ho.x
 simp only at hu hx hK
 have fk:=hu.d
 refine ax ai Tryz.func53 rfl Tryz.ntmps53 Tryz.results53 ?_
 unfold bY aV
 simp only[List.cons_append,List.nil_append]
 refine gg ?_)
 subst hK
 refine gg ?_
 rcases hX with rfl | ⟨l,rfl⟩
 ·refine af (hG) Tryz.call100 (hon:=cH) 2 [0,1] [0,0] [] ?_
  unfold aV
  refine gg ?_
  exact⟨_,rfl,rfl,trivial⟩
 ·refine af (hG) Tryz.call100 (hon:=cH) 2 [0,1] [0,0] [] ?_
  unfold aV
  refine gg ?_
  exact⟨_,rfl,rfl,trivial⟩
theorem Sb(o:du)(ho:o.Ok)(hK:o.K=1)(R:List RK)(hs:cP R)(cq:∀r∈R,fJ r)(hl:R.length≤4096)(room:Int)(vb vm:Nat):Spec Tryz.prog 53 [.ref 0 vb 1 0 0,.agg (bY o)] [⟨vb,.obj [.ref 1 vm 3 0 0]⟩,⟨vm,.obj [.sl 0 1 (fun k:List UInt8=>[AV.bs 0 k]) [] (av R),.sl 0 1 (fun k:List UInt8=>[AV.bs 0 k]) [] (aL R),.val (.int .i64 room)]⟩] (ak (.agg (fC (.val (.slice none 0 0)) aK 0 true (gW R room o.v).1)) [⟨vb,.obj [.ref 1 vm 3 0 0]⟩,⟨vm,.obj [.sl 0 1 (fun k:List UInt8=>[AV.bs 0 k]) [] (av (gW R room o.v).2),.sl 0 1 (fun k:List UInt8=>[AV.bs 0 k]) [] (aL (gW R room o.v).2),.val (.int .i64 room)]⟩] []):=by
 have hP:=RX o.v ho.v R hs cq hl room vb vm
 (
 obtain⟨K,u,x⟩:=o
 have hu:=ho.v
 have hx:=ho.x
 simp only at hu hx hK
 have fk:=hu.d
 refine ax ai Tryz.func53 rfl Tryz.ntmps53 Tryz.results53 ?_
 unfold bY aV
 simp only[List.cons_append,List.nil_append]
 refine gg ?_)
 subst hK
 refine gg ?_
 refine af (hP) Tryz.call101 (hon:=⟨(by decide:0<2),nI (x:= .bs 0 u.d) trivial _,trivial⟩) 2 [0,1] [0,0] [] ?_
 refine gg ?_
 exact⟨_,rfl,rfl,trivial⟩
theorem Sc(o:du)(ho:o.Ok)(hK:o.K=2)(R:List RK)(hs:cP R)(hl:R.length≤4096)(room:Int)(vb vm:Nat):Spec Tryz.prog 53 [.ref 0 vb 1 0 0,.agg (bY o)] [⟨vb,.obj [.ref 1 vm 3 0 0]⟩,⟨vm,.obj [.sl 0 1 (fun k:List UInt8=>[AV.bs 0 k]) [] (av R),.sl 0 1 (fun k:List UInt8=>[AV.bs 0 k]) [] (aL R),.val (.int .i64 room)]⟩] (ak (.agg (fC (.val (.slice none 0 0)) aK 0 false (jO R o.v.nm o.v.g).1)) [⟨vb,.obj [.ref 1 vm 3 0 0]⟩,⟨vm,.obj [.sl 0 1 (fun k:List UInt8=>[AV.bs 0 k]) [] (av (jO R o.v.nm o.v.g).2),.sl 0 1 (fun k:List UInt8=>[AV.bs 0 k]) [] (aL (jO R o.v.nm o.v.g).2),.val (.int .i64 room)]⟩] []):=by
 have hP:=RY o.v.nm ho.v.nm o.v.g ho.v.g R hs hl room vb vm
 (
 obtain⟨K,u,x⟩:=o
 have hu:=ho.v
 have hx:=ho.x
 simp only at hu hx hK
 have fk:=hu.d
 refine ax ai Tryz.func53 rfl Tryz.ntmps53 Tryz.results53 ?_
 unfold bY aV
 simp only[List.cons_append,List.nil_append]
 refine gg ?_)
 subst hK
 refine gg ?_
 refine af (hP) Tryz.call102 (hon:=cH) 2 [0,1] [0,0] [] ?_
 refine gg ?_
 exact⟨_,rfl,rfl,trivial⟩
theorem Sd(o:du)(ho:o.Ok)(hK:o.K=3)(R:List RK)(room:Int)(vb vm:Nat)(a:ByteArray)(b:List UInt8)(e:Int)(hN:Spec Tryz.prog 103 [.ref 0 vb 1 0 0,.val (.string o.v.nm),.agg (bC 16 o.v.g)] [⟨vb,.obj [.ref 1 vm 3 0 0]⟩,⟨vm,.obj [.sl 0 1 (fun k:List UInt8=>[AV.bs 0 k]) [] (av R),.sl 0 1 (fun k:List UInt8=>[AV.bs 0 k]) [] (aL R),.val (.int .i64 room)]⟩] (ak (.aD [.val (.string a),.agg (bC 16 b),.val (.int .i64 e)]) [⟨vb,.obj [.ref 1 vm 3 0 0]⟩,⟨vm,.obj [.sl 0 1 (fun k:List UInt8=>[AV.bs 0 k]) [] (av R),.sl 0 1 (fun k:List UInt8=>[AV.bs 0 k]) [] (aL R),.val (.int .i64 room)]⟩] [])):Spec Tryz.prog 53 [.ref 0 vb 1 0 0,.agg (bY o)] [⟨vb,.obj [.ref 1 vm 3 0 0]⟩,⟨vm,.obj [.sl 0 1 (fun k:List UInt8=>[AV.bs 0 k]) [] (av R),.sl 0 1 (fun k:List UInt8=>[AV.bs 0 k]) [] (aL R),.val (.int .i64 room)]⟩] (ak (.agg (fC (.val (.slice none 0 0)) ⟨a,b,0,⟨0,0,0,0,0,0⟩,List.replicate 32 0,[]⟩ 0 false e)) [⟨vb,.obj [.ref 1 vm 3 0 0]⟩,⟨vm,.obj [.sl 0 1 (fun k:List UInt8=>[AV.bs 0 k]) [] (av R),.sl 0 1 (fun k:List UInt8=>[AV.bs 0 k]) [] (aL R),.val (.int .i64 room)]⟩] []):=by
 (
 obtain⟨K,u,x⟩:=o
 have hu:=ho.v
 have hx:=ho.x
 simp only at hu hx hK
 have fk:=hu.d
 refine ax ai Tryz.func53 rfl Tryz.ntmps53 Tryz.results53 ?_
 unfold bY aV
 simp only[List.cons_append,List.nil_append]
 refine gg ?_)
 subst hK
 refine gg ?_
 refine af (hN) Tryz.call103 (hon:=cH) (hX:=cH) 2 [0,1] [0,0] [] ?_
 refine gg ?_
 exact⟨_,rfl,rfl,trivial⟩
theorem Se(o:du)(ho:o.Ok)(hK:o.K=4){R:List RK}{z:UInt8}(hz:gF R z)(hs:cP R)(hl:R.length≤4096)(room:Int)(vb vm:Nat):Spec Tryz.prog 53 [.ref 0 vb 1 0 0,.agg (bY o)] [⟨vb,.obj [.ref 1 vm 3 0 0]⟩,⟨vm,.obj [.sl 0 1 (fun k:List UInt8=>[AV.bs 0 k]) [] (av R),.sl 0 1 (fun k:List UInt8=>[AV.bs 0 k]) [] (aL R),.val (.int .i64 room)]⟩] (ak (.agg (fC (.val (.slice none 0 0)) aK ((z.toNat:Nat):Int) false 0)) [⟨vb,.obj [.ref 1 vm 3 0 0]⟩,⟨vm,.obj [.sl 0 1 (fun k:List UInt8=>[AV.bs 0 k]) [] (av R),.sl 0 1 (fun k:List UInt8=>[AV.bs 0 k]) [] (aL R),.val (.int .i64 room)]⟩] []):=by
 have hM:=JH hz hs hl room vb vm
 have pz:=Du z
 (
 obtain⟨K,u,x⟩:=o
 have hu:=ho.v
 have hx:=ho.x
 simp only at hu hx hK
 have fk:=hu.d
 refine ax ai Tryz.func53 rfl Tryz.ntmps53 Tryz.results53 ?_
 unfold bY aV
 simp only[List.cons_append,List.nil_append]
 refine gg ?_)
 subst hK
 refine gg ?_
 refine af (hM) Tryz.call104 2 [0,1] [0,0] [] ?_
 refine gg ?_
 exact⟨_,rfl,rfl,trivial⟩
theorem Sf(o:du)(ho:o.Ok)(hK:o.K=5)(R:List RK)(hs:cP R)(cq:∀r∈R,fJ r)(hl:R.length≤4096)(room:Int)(vb vm:Nat):Spec Tryz.prog 53 [.ref 0 vb 1 0 0,.agg (bY o)] [⟨vb,.obj [.ref 1 vm 3 0 0]⟩,⟨vm,.obj [.sl 0 1 (fun k:List UInt8=>[AV.bs 0 k]) [] (av R),.sl 0 1 (fun k:List UInt8=>[AV.bs 0 k]) [] (aL R),.val (.int .i64 room)]⟩] (ak (.agg (fC (.val (.slice none 0 0)) aK 0 false (fh R room bQ [u8 o.x]))) [⟨vb,.obj [.ref 1 vm 3 0 0]⟩,⟨vm,.obj [.sl 0 1 (fun k:List UInt8=>[AV.bs 0 k]) [] (av (eP R room bQ [u8 o.x])),.sl 0 1 (fun k:List UInt8=>[AV.bs 0 k]) [] (aL (eP R room bQ [u8 o.x])),.val (.int .i64 room)]⟩] []):=by
 have hP:=R4 o.x ho.x R hs cq hl room vb vm
 (
 obtain⟨K,u,x⟩:=o
 have hu:=ho.v
 have hx:=ho.x
 simp only at hu hx hK
 have fk:=hu.d
 refine ax ai Tryz.func53 rfl Tryz.ntmps53 Tryz.results53 ?_
 unfold bY aV
 simp only[List.cons_append,List.nil_append]
 refine gg ?_)
 subst hK
 refine gg ?_
 refine af (hP) Tryz.call105 2 [0,1] [0,0] [] ?_
 refine gg ?_
 exact⟨_,rfl,rfl,trivial⟩
theorem JL(o:du)(ho:o.Ok)(hK:¬(0≤o.K∧o.K≤5))(R:List RK)(room:Int)(vb vm:Nat):Spec Tryz.prog 53 [.ref 0 vb 1 0 0,.agg (bY o)] [⟨vb,.obj [.ref 1 vm 3 0 0]⟩,⟨vm,.obj [.sl 0 1 (fun k:List UInt8=>[AV.bs 0 k]) [] (av R),.sl 0 1 (fun k:List UInt8=>[AV.bs 0 k]) [] (aL R),.val (.int .i64 room)]⟩] (ak (.agg (fC (.val (.slice none 0 0)) aK 0 false 0)) [⟨vb,.obj [.ref 1 vm 3 0 0]⟩,⟨vm,.obj [.sl 0 1 (fun k:List UInt8=>[AV.bs 0 k]) [] (av R),.sl 0 1 (fun k:List UInt8=>[AV.bs 0 k]) [] (aL R),.val (.int .i64 room)]⟩] []):=by
 (
 obtain⟨K,u,x⟩:=o
 have hu:=ho.v
 have hx:=ho.x
 simp only at hu hx hK
 have fk:=hu.d
 refine ax ai Tryz.func53 rfl Tryz.ntmps53 Tryz.results53 ?_
 unfold bY aV
 simp only[List.cons_append,List.nil_append]
 refine gg ?_)
 exact⟨_,rfl,rfl,trivial⟩
structure rv where
 u:aU
 n:Int
 is:Bool
 e:Int
def kl(t:rv):List AV:=fC (.bs 0 t.u.d) t.u t.n t.is t.e
theorem JM(t:rv)(ht:t.u.Ok):Spec Tryz.prog 54 [.agg (kl t),.agg (kl t)] [] (ak (.val (.bool true)) [] []):=by
 have hS:=Jb t.u t.u ht ht 0 0
 rw[(Dw ht ht).2 rfl] at hS
 refine ax ai Tryz.func54 rfl Tryz.ntmps54 Tryz.results54 ?_
 refine gg ?_
 refine af (hS) Tryz.call49 (hon:=⟨nI (x:= .bs 0 t.u.d) trivial t.u,nI (x:= .bs 0 t.u.d) trivial t.u,trivial⟩) 0 [] [] [] ?_
 refine aE ?_
 exact⟨_,congrArg AV.val (congrArg Value.bool (by simp)),rfl,trivial⟩
theorem Sg {W : Int} {n k : Nat} (s : U) (c : Nat) {M R : List RK} (m : LK s c M) (rm : RM M R) (go : aw W n k s) (pa : aA n k 0 c) (pb : aA n k c c) {V : List aU} (hV : VR R V) (qR : R.length ≤ 1000) (bH : ∀ k ∈ av R, k.length ≤ 140737488355328) (i : Nat) (hi : i ≤ V.length) (vk vs va vb v0 v1 : Nat) : Spec Tryz.prog 45 [.ref 0 vk 1 0 0, .val (.string (rq V i)), .agg (bC 16 (ru V i))] [⟨vk, .obj [.ref 1 vs 3 0 0]⟩, ⟨vs, .obj [.ref 4 v0 6 0 0, .ref 2 va 3 0 0, .ref 3 vb 3 0 0]⟩, ⟨va, .obj [.ref 4 v0 6 0 0, .val (.int .i64 ((0 : Nat) : Int)), .val (.int .i64 (c : Int))]⟩, ⟨vb, .obj [.ref 4 v0 6 0 0, .val (.int .i64 (c : Int)), .val (.int .i64 (c : Int))]⟩, ⟨v0, .obj [.own 5 v1 1 0 s.l.length, .val (.int .i64 (s.k : Int)), .val (.int .i64 s.ar), .val (.int .i64 s.pt), .val (.bool s.dd), .val (.int .i64 s.wr)]⟩, ⟨v1, .bytes s.l⟩]
   (ak (pQ V i) [⟨vk,.obj [.ref 1 vs 3 0 0]⟩,⟨vs,.obj [.ref 4 v0 6 0 0,.ref 2 va 3 0 0,.ref 3 vb 3 0 0]⟩,⟨va,.obj [.ref 4 v0 6 0 0,.val (.int .i64 ((0:Nat):Int)),.val (.int .i64 (c:Int))]⟩,⟨vb,.obj [.ref 4 v0 6 0 0,.val (.int .i64 (c:Int)),.val (.int .i64 (c:Int))]⟩,⟨v0,.obj [.own 5 v1 1 0 s.l.length,.val (.int .i64 (s.k:Int)),.val (.int .i64 s.ar),.val (.int .i64 s.pt),.val (.bool s.dd),.val (.int .i64 s.wr)]⟩,⟨v1,.bytes s.l⟩] []):=by
 have kF:jK (M.map fun r=>r.key)=av R:=rm.keys
 have dH:(av R).length≤140737488355328:=by rw[gB];omega
 have JN:∀k∈V.map kV,cC k=true:=by
  intro k hk
  obtain⟨v,hv,rfl⟩:=List.mem_map.1 hk
  exact tn (hV.ok v hv)
 cases i with
 | zero=>
  have h:=Jk s c m go pa pb (av R) kF bH dH [] vk vs va vb v0 v1
  rw[hV.eJ,Jm (i:=0) hV.ok (Rg fun k hk=>⟨JN k hk,by
   obtain⟨v,hv,rfl⟩:=List.mem_map.1 hk
   exact Rb (hV.ok v hv)⟩)] at h
  exact h
 | succ i=>
  have ah:i<V.length:=hi
  have hv:V.getD i aK=V[i]:=by rw[List.getD_eq_getElem?_getD,List.getElem?_eq_getElem ah];rfl
  have cq:=hV.ok _ (List.getElem_mem ah)
  have h:=Jl s c m go pa pb (av R) kF bH dH V[i].nm cq.r V[i].g cq.ok.g vk vs va vb v0 v1
  have hf:=Rf (hV.st rm.sort) JN i (by rw[List.length_map];exact ah)
  rw[List.getElem_map] at hf
  have sR:=Jm (i:=i+1) hV.ok hf
  unfold kV at sR
  rw[hV.eJ] at h
  unfold kV at h
  rw[sR] at h
  have e1:rq V (i+1)=V[i].nm:=by show(V.getD i aK).nm=_;rw[hv]
  have e2:ru V (i+1)=V[i].g:=by show(V.getD i aK).g=_;rw[hv]
  rw[e1,e2]
  exact h
theorem JO {W : Int} {n k : Nat} (s : U) (c : Nat) {M R : List RK} (m : LK s c M) (rm : RM M R) (go : aw W n k s) (pa : aA n k 0 c) (pb : aA n k c c) {x : UInt8} (hx : gF R x) (vk vs va vb v0 v1 : Nat) : Spec Tryz.prog 47 [.ref 0 vk 1 0 0] [⟨vk, .obj [.ref 1 vs 3 0 0]⟩, ⟨vs, .obj [.ref 4 v0 6 0 0, .ref 2 va 3 0 0, .ref 3 vb 3 0 0]⟩, ⟨va, .obj [.ref 4 v0 6 0 0, .val (.int .i64 ((0 : Nat) : Int)), .val (.int .i64 (c : Int))]⟩, ⟨vb, .obj [.ref 4 v0 6 0 0, .val (.int .i64 (c : Int)), .val (.int .i64 (c : Int))]⟩, ⟨v0, .obj [.own 5 v1 1 0 s.l.length, .val (.int .i64 (s.k : Int)), .val (.int .i64 s.ar), .val (.int .i64 s.pt), .val (.bool s.dd), .val (.int .i64 s.wr)]⟩, ⟨v1, .bytes s.l⟩]
   (ak (.aD [.val (bv x),.val (.int .i64 0)]) [⟨vk,.obj [.ref 1 vs 3 0 0]⟩,⟨vs,.obj [.ref 4 v0 6 0 0,.ref 2 va 3 0 0,.ref 3 vb 3 0 0]⟩,⟨va,.obj [.ref 4 v0 6 0 0,.val (.int .i64 ((0:Nat):Int)),.val (.int .i64 (c:Int))]⟩,⟨vb,.obj [.ref 4 v0 6 0 0,.val (.int .i64 (c:Int)),.val (.int .i64 (c:Int))]⟩,⟨v0,.obj [.own 5 v1 1 0 s.l.length,.val (.int .i64 (s.k:Int)),.val (.int .i64 s.ar),.val (.int .i64 s.pt),.val (.bool s.dd),.val (.int .i64 s.wr)]⟩,⟨v1,.bytes s.l⟩] []):=by
 cases hx with
 | no h=>exact Q1 s c m go pa pb (fun r hr=>h r (rm.perm.mem_iff.2 hr)) vk vs va vb v0 v1
 | yes _ h=>exact Q2 s c m go pa pb x (rm.perm.mem_iff.1 h) vk vs va vb v0 v1
theorem gF.uniq{R:List RK}(hs:cP R){x z:UInt8}(hx:gF R x)(hz:gF R z):x=z:=by
 cases hx with
 | yes _ h=>
  cases hz with
  | yes _ h'=>have:=hs.one h h' rfl;injection this with _ e _;injection e
  | no h'=>exact absurd rfl (h' _ h)
 | no h=>
  cases hz with
  | yes _ h'=>exact absurd rfl (h _ h')
  | no _=>rfl
theorem Sh{V V':List aU}{i:Nat}(h1:i≤V'.length)(h2:i≤V.length)(h:V.take i=V'.take i):rq V' i=rq V i∧ru V' i=ru V i:=by
 cases i with
 | zero=>exact⟨rfl,rfl⟩
 | succ i=>
  have e:V'.getD i aK=V.getD i aK:=by
   have e1:(V.take (i+1))[i]? =(V'.take (i+1))[i]?:=by rw[h]
   rw[List.getElem?_take_of_lt (Nat.lt_succ_self i),List.getElem?_take_of_lt (Nat.lt_succ_self i)] at e1
   rw[List.getD_eq_getElem?_getD,List.getD_eq_getElem?_getD,e1]
  exact⟨congrArg aU.nm e,congrArg aU.g e⟩
theorem Si(p q:Bool):(!decide ((0:Int)=0)|| !p|| !q)= !(p&&q):=by cases p<;>cases q<;>rfl
theorem JP {s : U} {y n : Nat} {M R : List RK} (ew : LK s 1 M) (iO : RM M R) (fc : aw (1000 + n * 300000000000) (2 * y) y s) (k9 : ∀ r ∈ R, eC r) (qR : R.length ≤ n) (hy : 128 ≤ y ∧ y ≤ 2175) (hn : n ≤ 900) {V : List aU} (hV : VR R V) {R' : List RK} {V' : List aU} (mJ : VR R' V') (yT : ∀ r ∈ R', eC r) (iN : cP R') (bA : R'.length ≤ 1000) (yU : R = R' → V = V') (b : Bool) (hb : b = true ↔ R = R') (room : Int) (vk vs va vb v0 v1 wb wm : Nat) :
    Spec Tryz.prog 55 [.ref 0 vk 1 0 0,.ref 6 wb 1 0 0] [⟨vk,.obj [.ref 1 vs 3 0 0]⟩,⟨vs,.obj [.ref 4 v0 6 0 0,.ref 2 va 3 0 0,.ref 3 vb 3 0 0]⟩,⟨va,.obj [.ref 4 v0 6 0 0,.val (.int .i64 ((0:Nat):Int)),.val (.int .i64 (1:Int))]⟩,⟨vb,.obj [.ref 4 v0 6 0 0,.val (.int .i64 (1:Int)),.val (.int .i64 (1:Int))]⟩,⟨v0,.obj [.own 5 v1 1 0 s.l.length,.val (.int .i64 (s.k:Int)),.val (.int .i64 s.ar),.val (.int .i64 s.pt),.val (.bool s.dd),.val (.int .i64 s.wr)]⟩,⟨v1,.bytes s.l⟩,⟨wb,.obj [.ref 7 wm 3 0 0]⟩,⟨wm,.obj [.sl 0 1 (fun k:List UInt8=>[AV.bs 0 k]) [] (av R'),.sl 0 1 (fun k:List UInt8=>[AV.bs 0 k]) [] (aL R'),.val (.int .i64 room)]⟩] (ak (.val (.bool b)) [⟨vk,.obj [.ref 1 vs 3 0 0]⟩,⟨vs,.obj [.ref 4 v0 6 0 0,.ref 2 va 3 0 0,.ref 3 vb 3 0 0]⟩,⟨va,.obj [.ref 4 v0 6 0 0,.val (.int .i64 ((0:Nat):Int)),.val (.int .i64 (1:Int))]⟩,⟨vb,.obj [.ref 4 v0 6 0 0,.val (.int .i64 (1:Int)),.val (.int .i64 (1:Int))]⟩,⟨v0,.obj [.own 5 v1 1 0 s.l.length,.val (.int .i64 (s.k:Int)),.val (.int .i64 s.ar),.val (.int .i64 s.pt),.val (.bool s.dd),.val (.int .i64 s.wr)]⟩,⟨v1,.bytes s.l⟩,⟨wb,.obj [.ref 7 wm 3 0 0]⟩,⟨wm,.obj [.sl 0 1 (fun k:List UInt8=>[AV.bs 0 k]) [] (av R'),.sl 0 1 (fun k:List UInt8=>[AV.bs 0 k]) [] (aL R'),.val (.int .i64 room)]⟩] []):=by
 have la:=tg hy
 have lb:=tj hy
 have R9:=hV.len
 have Vk:=mJ.len
 have JQ:=iO.sort
 obtain⟨x,hx⟩:=gF.of k9
 obtain⟨x',j4⟩:=gF.of yT
 have bH:∀k∈av R,k.length≤140737488355328:=by
  intro k hk
  obtain⟨r,hr,rfl⟩:=List.mem_map.1 hk
  have:=(k9 r hr).yV.1.2
  omega
 have n5:=fun i hi=>Sg s 1 ew iO fc la lb hV (by omega) bH i hi vk vs va vb v0 v1
 have Sj:=fun(v:aU)(hv:v∈V)=>Sk s 1 ew fc la lb v (hV.ok v hv) (iO.perm.mem_iff.1 (hV.mem hv)) vk vs va vb v0 v1
 have JR:=JO s 1 ew iO fc la lb hx vk vs va vb v0 v1
 have DH:=I7 s 1 ew fc la lb vk vs va vb v0 v1
 rw[←iO.used] at DH
 have Sm:=Sa mJ yT iN (by omega) room wb wm
 have vd:=JH j4 iN (by omega) room wb wm
 have Sn:=RZ R' (fun r hr=>(yT r hr).yV) (by omega) room wb wm
 have zU:=fun(e:V=V')(e2:x=x')(e3:aP R=aP R')=>map_eq k9 yT JQ iN hV (e▸mJ) hx (e2▸j4) e3
 have Sp:R=R'→x=x':=fun e=>gF.uniq JQ hx (e▸j4)
 have Sq:=hV.ok
 have Sr:=mJ.ok
 clear hx j4 iO ew hV mJ
 refine ax ai Tryz.func55 rfl Tryz.ntmps55 Tryz.results55 ?_
 refine gg ?_
 refine af (Sm) Tryz.call106 (hX:=fun a=>nI (x:= .bs 0 a.d) trivial a) 2 [6,7] [0,0] [] ?_
 refine gg ?_
 (refine aH ?_)
 conv=>whnf
 refine cE (fun i:Nat=>i≤V'.length∧i≤V.length∧V.take i=V'.take i) (fun i=>V'.length - i) 8 [4,6,8,9,10,11,12,13,26,27,28,29,30,31,32,33,34,35,36,37,38,39,40,41,42,43,44,45,46,47,48,49,50,51,52,53,54,55,56,57,58,59,60,61,62,63,64,65,66,67,68,69,70,71,72,73,74,75,76,77,78,79,80,81,82,83,84] (fun i=>[(5,.sl 0 57 (fun v:aU=>aV (.bs 0 v.d) v) aK V'),(6,.val (.string (rq V' i))),(8,.val (.int .i64 (i:Int)))]) (fun i=>[(15,⟨1,.obj (bC 16 (ru V' i))⟩)]) 0 ⟨Nat.zero_le _,Nat.zero_le _,rfl⟩ ?_ ?_ ?_
 ·exact no_implicit_lambda%ten
 ·exact no_implicit_lambda%b6
 ·rintro i w ⟨i1,i2,i3⟩
  have br:rq V' i=rq V i∧ru V' i=ru V i:=Sh i1 i2 i3
  have hN:=n5 i i2
  refine cF ?_
  rw[br.1,br.2]
  refine gg ?_
  refine⟨fun h=> ?_,fun h=> ?_⟩
  ·have kJ:i<V'.length:=by have:=of_decide_eq_true h;omega
   have CH:V'[i]? =some (V'.getD i aK):=by rw[List.getD_eq_getElem?_getD,List.getElem?_eq_getElem kJ];rfl
   have Ss:V'.getD i aK∈V':=List.mem_of_getElem? CH
   have jt:=Sr _ Ss
   refine gg ?_
   refine af (hN) Tryz.call45 (hon:=cH) (hX:=Jn _ _) 6 [0,1,2,3,4,5] [0,0,0,0,0,0] [] ?_
   by_cases ah:i<V.length
   case neg=>
    unfold pQ
    rw[List.getElem?_eq_none (by omega)]
    simp only
    refine aE ?_
    (refine aH ?_)
    refine bL (p:=8) ai hm [0,1,3,7,7,7,55,119,247,511,1023,2047,4095,4095,4095,28671,61439,126975,262143,524287] [⟨0,false,false,[]⟩,⟨1,false,false,[]⟩,⟨2,false,false,[]⟩,⟨3,false,false,[]⟩,⟨4,false,false,[]⟩,⟨5,false,false,[]⟩,⟨6,true,false,[43,47,48,49,50,51,52,53,54,55,56,57,58,59]⟩,⟨7,true,false,[43,48,49,50,51,52,53,54,55,56,57,58,59]⟩,⟨8,true,false,[43,49,50,51,52,53,54,55,56,57,58,59]⟩,⟨9,false,false,[]⟩,⟨10,false,false,[]⟩,⟨11,false,false,[]⟩,⟨12,true,false,[53,54,55,56,57,58,59]⟩,⟨13,false,false,[]⟩,⟨14,false,false,[]⟩,⟨15,true,false,[52,56,57,58,59]⟩,⟨16,true,false,[52,57,58,59]⟩,⟨17,true,false,[52,58,59]⟩,⟨18,false,false,[]⟩,⟨19,false,false,[]⟩] (by kernel_rfl) ?_
    refine aE ?_
    (
 rw[show b=false from Bool.eq_false_iff.2 fun ek=>by
  have nJ:=yU (hb.1 ek)
  exact absurd (congrArg List.length nJ) (by omega)]
 exact ⟨_, rfl, rfl, trivial⟩)
   have gh:V[i]? =some (V.getD i aK):=by rw[List.getD_eq_getElem?_getD,List.getElem?_eq_getElem ah];rfl
   have yW:V.getD i aK∈V:=List.mem_of_getElem? gh
   have hu:=Sq _ yW
   have hG:=Sj _ yW
   unfold pQ
   rw[gh]
   simp only
   refine aE ?_
   (refine aH ?_)
   refine bL (p:=8) ai hm [0,1,3,7,7,7,55,119,247,511,1023,2047,4095,4095,4095,28671,61439,126975,262143,524287] [⟨0,false,false,[]⟩,⟨1,false,false,[]⟩,⟨2,false,false,[]⟩,⟨3,false,false,[]⟩,⟨4,false,false,[]⟩,⟨5,false,false,[]⟩,⟨6,true,false,[43,47,48,49,50,51,52,53,54,55,56,57,58,59]⟩,⟨7,true,false,[43,48,49,50,51,52,53,54,55,56,57,58,59]⟩,⟨8,true,false,[43,49,50,51,52,53,54,55,56,57,58,59]⟩,⟨9,false,false,[]⟩,⟨10,false,false,[]⟩,⟨11,false,false,[]⟩,⟨12,true,false,[53,54,55,56,57,58,59]⟩,⟨13,false,false,[]⟩,⟨14,false,false,[]⟩,⟨15,true,false,[52,56,57,58,59]⟩,⟨16,true,false,[52,57,58,59]⟩,⟨17,true,false,[52,58,59]⟩,⟨18,false,false,[]⟩,⟨19,false,false,[]⟩] (by kernel_rfl) ?_
   refine aE ?_
   generalize Su:V'.getD (Int.toNat (i:Int)) aK=yy
   have Sv:V'.getD i aK=yy:=by rw[←Su,Int.toNat_natCast]
   subst Sv
   rw[show(!decide ((0:Int)=0)|| !decide ((V.getD i aK).nm.data.toList=(V'.getD i aK).nm.data.toList)|| !eK [bv ((V.getD i aK).g.getD 0 0),bv ((V.getD i aK).g.getD 1 0),bv ((V.getD i aK).g.getD 2 0),bv ((V.getD i aK).g.getD 3 0),bv ((V.getD i aK).g.getD 4 0),bv ((V.getD i aK).g.getD 5 0),bv ((V.getD i aK).g.getD 6 0),bv ((V.getD i aK).g.getD 7 0),bv ((V.getD i aK).g.getD 8 0),bv ((V.getD i aK).g.getD 9 0),bv ((V.getD i aK).g.getD 10 0),bv ((V.getD i aK).g.getD 11 0),bv ((V.getD i aK).g.getD 12 0),bv ((V.getD i aK).g.getD 13 0),bv ((V.getD i aK).g.getD 14 0),bv ((V.getD i aK).g.getD 15 0)] [bv ((V'.getD i aK).g.getD 0 0),bv ((V'.getD i aK).g.getD 1 0),bv ((V'.getD i aK).g.getD 2 0),bv ((V'.getD i aK).g.getD 3 0),bv ((V'.getD i aK).g.getD 4 0),bv ((V'.getD i aK).g.getD 5 0),bv ((V'.getD i aK).g.getD 6 0),bv ((V'.getD i aK).g.getD 7 0),bv ((V'.getD i aK).g.getD 8 0),bv ((V'.getD i aK).g.getD 9 0),bv ((V'.getD i aK).g.getD 10 0),bv ((V'.getD i aK).g.getD 11 0),bv ((V'.getD i aK).g.getD 12 0),bv ((V'.getD i aK).g.getD 13 0),bv ((V'.getD i aK).g.getD 14 0),bv ((V'.getD i aK).g.getD 15 0)])= !decide ((V.getD i aK).nm=(V'.getD i aK).nm∧(V.getD i aK).g=(V'.getD i aK).g) from by rw[←Sw (V.getD i aK).nm (V'.getD i aK).nm (V.getD i aK).g (V'.getD i aK).g hu.ok.g jt.ok.g];exact Si _ _]
   by_cases hs:(V.getD i aK).nm=(V'.getD i aK).nm∧(V.getD i aK).g=(V'.getD i aK).g
   case neg=>
    rw[decide_eq_false hs]
    refine aE ?_
    (
 rw[show b=false from Bool.eq_false_iff.2 fun ek=>by
  have nJ:=yU (hb.1 ek)
  exact hs ⟨by rw[nJ],by rw[nJ]⟩]
 exact ⟨_, rfl, rfl, trivial⟩)
   rw[decide_eq_true hs]
   refine aE ?_
   refine af (hG) Tryz.call44 (hon:=cH) 6 [0,1,2,3,4,5] [0,0,0,0,0,0] [] ?_
   refine aE ?_
   (refine aH ?_)
   refine bL (p:=8) ai hm [0,1,3,7,15,31,63,127,127,127,895,1919,4095,8191,16383] [⟨0,false,false,[]⟩,⟨1,false,false,[]⟩,⟨2,false,false,[]⟩,⟨3,false,false,[]⟩,⟨4,false,false,[]⟩,⟨5,false,false,[]⟩,⟨6,false,false,[]⟩,⟨7,true,false,[76,77,78,79,80,81,82]⟩,⟨8,false,false,[]⟩,⟨9,false,false,[]⟩,⟨10,true,false,[75,79,80,81,82]⟩,⟨11,true,false,[75,80,81,82]⟩,⟨12,true,false,[81,82]⟩,⟨13,false,false,[]⟩,⟨14,false,false,[]⟩] (by kernel_rfl) ?_
   refine aE ?_
   generalize Sx:V'.getD (Int.toNat (i:Int)) aK=yz
   have Sy:V'.getD i aK=yz:=by rw[←Sx,Int.toNat_natCast]
   subst Sy
   conv=>whnf
   refine ji (hA:=fun hG=>⟨trivial,hG,hG,trivial⟩) (k:= ?_)
   refine af (Jb (V.getD i aK) (V'.getD i aK) hu.ok jt.ok 0 0) Tryz.call49 (hon:=⟨nI (x:= .bs 0 _) trivial _,nI (x:= .bs 0 _) trivial _,trivial⟩) 0 [] [] [] ?_
   by_cases wq:V.getD i aK=V'.getD i aK
   case neg=>
    rw[show yL (V.getD i aK) (V'.getD i aK)=false from Bool.eq_false_iff.2 fun q=>wq ((Dw hu.ok jt.ok).1 q)]
    refine aE ?_
    (
 rw[show b=false from Bool.eq_false_iff.2 fun ek=>by
  have nJ:=yU (hb.1 ek)
  exact wq (by rw[nJ])]
 exact ⟨_, rfl, rfl, trivial⟩)
   rw[(Dw hu.ok jt.ok).2 wq]
   refine aE ?_
   have Sz:V.take (i+1)=V'.take (i+1):=by
    rw[List.take_succ_eq_append_getElem ah,List.take_succ_eq_append_getElem kJ,i3]
    have e1:V[i]=V.getD i aK:=by rw[List.getD_eq_getElem?_getD,List.getElem?_eq_getElem ah];rfl
    have e2:V'[i]=V'.getD i aK:=by rw[List.getD_eq_getElem?_getD,List.getElem?_eq_getElem kJ];rfl
    rw[e1,e2,wq]
   rw[wq]
   exact bk (i+1) ⟨kJ,ah,Sz⟩ (by show V'.length - (i+1)<V'.length - i;omega)
  ·have hi:i=V'.length:=by have:=of_decide_eq_false h;omega
   subst hi
   refine gg ?_
   refine af (hN) Tryz.call45 (hon:=cH) (hX:=Jn _ _) 6 [0,1,2,3,4,5] [0,0,0,0,0,0] [] ?_
   unfold pQ
   rcases Nat.lt_or_ge V'.length V.length with ah | gh
   ·rw[show V[V'.length]? =some (V.getD V'.length aK) by rw[List.getD_eq_getElem?_getD,List.getElem?_eq_getElem ah];rfl]
    simp only
    refine aE ?_
    (
 refine af (JR) Tryz.call47 6 [0,1,2,3,4,5] [0,0,0,0,0,0] [] ?_
 refine aE ?_
 refine af (vd) Tryz.call104 2 [6,7] [0,0] [] ?_
 refine aE ?_
 refine af (DH) Tryz.call62 6 [0,1,2,3,4,5] [0,0,0,0,0,0] [] ?_
 refine aE ?_)
    intro _
    refine aE ?_
    (
 rw[show b=false from Bool.eq_false_iff.2 fun ek=>by
  have nJ:=yU (hb.1 ek)
  exact absurd (congrArg List.length nJ) (by omega)]
 exact ⟨_, rfl, rfl, trivial⟩)
   ·have nJ:V=V':=by
      have e1:=i3
      rw[List.take_length,List.take_of_length_le gh] at e1
      exact e1
    rw[List.getElem?_eq_none (by omega)]
    simp only
    refine aE ?_
    (
 refine af (JR) Tryz.call47 6 [0,1,2,3,4,5] [0,0,0,0,0,0] [] ?_
 refine aE ?_
 refine af (vd) Tryz.call104 2 [6,7] [0,0] [] ?_
 refine aE ?_
 refine af (DH) Tryz.call62 6 [0,1,2,3,4,5] [0,0,0,0,0,0] [] ?_
 refine aE ?_)
    by_cases lJ:x=x'
    ·rw[show decide (((x.toNat:Nat):Int)=((x'.toNat:Nat):Int))=true from decide_eq_true (by rw[lJ])]
     conv=>whnf
     refine ji (hA:=fun hG=>⟨trivial,hG,trivial⟩) (k:= ?_)
     refine af (Sn) Tryz.call107 2 [6,7] [0,0] [] ?_
     refine aE ?_
     have SA:b=decide ((aP R:Int)=(aP R':Int)):=by
      rw[Bool.eq_iff_iff,hb,decide_eq_true_eq]
      constructor
      ·intro e;rw[e]
      ·intro e;exact zU nJ lJ (by exact_mod_cast e)
     rw[SA]
     exact⟨_,congrArg AV.val (congrArg Value.bool (by simp)),rfl,trivial⟩
    ·rw[show decide (((x.toNat:Nat):Int)=((x'.toNat:Nat):Int))=false from decide_eq_false fun e=>lJ (UInt8.toNat_inj.1 (by exact_mod_cast e))]
     refine aE ?_
     intro _
     refine aE ?_
     rw[show b=false from Bool.eq_false_iff.2 fun ek=>lJ (Sp (hb.1 ek))]
     exact⟨_,rfl,rfl,trivial⟩
end Go.Proofs.YtpbpiehcchannaaGreatDoor
