/- Walks of lintellaw21: meant. Walks of lintellaw21: sameTold, holds. Conditions: the premises of each law. -/
import Derived.Test.YtpbpiehcchannaaGreatDoorJKqe
namespace Go.Proofs.YtpbpiehcchannaaGreatDoor
open Go.RowKit
set_option linter.unusedVariables false
set_option linter.unusedSimpArgs false
set_option maxRecDepth 100000
set_option maxHeartbeats 1500000
theorem meant_get(X:AV)(hX:X= .val (.slice none 0 0)∨∃l,X= .bs 0 l)(o:OpV)(ho:o.Ok)(hK:o.K=0)(R:List RK)(room:Int)(vb vm:Nat)(r:VarV)(is:Bool)(e:Int)(hG:Spec Tryz.prog 100 [.ref 0 vb 1 0 0,.val (.string o.v.nm),.agg (bytesA 16 o.v.g)] [⟨vb,.obj [.ref 1 vm 3 0 0]⟩,⟨vm,.obj [.sl 0 1 (fun k:List UInt8=>[AV.bs 0 k]) [] (ksR R),.sl 0 1 (fun k:List UInt8=>[AV.bs 0 k]) [] (vsR R),.val (.int .i64 room)]⟩] (pms (.tup [.agg (varA X r),.val (.bool is),.val (.int .i64 e)]) [⟨vb,.obj [.ref 1 vm 3 0 0]⟩,⟨vm,.obj [.sl 0 1 (fun k:List UInt8=>[AV.bs 0 k]) [] (ksR R),.sl 0 1 (fun k:List UInt8=>[AV.bs 0 k]) [] (vsR R),.val (.int .i64 room)]⟩] [])):Spec Tryz.prog 53 [.ref 0 vb 1 0 0,.agg (opA o)] [⟨vb,.obj [.ref 1 vm 3 0 0]⟩,⟨vm,.obj [.sl 0 1 (fun k:List UInt8=>[AV.bs 0 k]) [] (ksR R),.sl 0 1 (fun k:List UInt8=>[AV.bs 0 k]) [] (vsR R),.val (.int .i64 room)]⟩] (pms (.agg (toldA X r 0 is e)) [⟨vb,.obj [.ref 1 vm 3 0 0]⟩,⟨vm,.obj [.sl 0 1 (fun k:List UInt8=>[AV.bs 0 k]) [] (ksR R),.sl 0 1 (fun k:List UInt8=>[AV.bs 0 k]) [] (vsR R),.val (.int .i64 room)]⟩] []):=by
 (
 obtain⟨K,u,x⟩:=o
 have hu:=ho.v
 have hx:=ho.x
 simp only at hu hx hK
 have hud:=hu.d
 refine spec_entry tbOk Tryz.func53 rfl Tryz.ntmps53 Tryz.results53 ?_
 unfold opA varA
 simp only[List.cons_append,List.nil_append]
 refine gg (k:= ?_))
 subst hK
 refine gg (k:= ?_)
 rcases hX with rfl | ⟨l,rfl⟩
 ·refine cmks (hG) Tryz.call100 (hon:=rowu) 2 [0,1] [0,0] [] ?_
  unfold varA
  refine gg (k:= ?_)
  exact⟨_,rfl,rfl,trivial⟩
 ·refine cmks (hG) Tryz.call100 (hon:=rowu) 2 [0,1] [0,0] [] ?_
  unfold varA
  refine gg (k:= ?_)
  exact⟨_,rfl,rfl,trivial⟩
theorem meant_put(o:OpV)(ho:o.Ok)(hK:o.K=1)(R:List RK)(hs:SortK R)(hok:∀r∈R,OkK r)(hl:R.length≤4096)(room:Int)(vb vm:Nat):Spec Tryz.prog 53 [.ref 0 vb 1 0 0,.agg (opA o)] [⟨vb,.obj [.ref 1 vm 3 0 0]⟩,⟨vm,.obj [.sl 0 1 (fun k:List UInt8=>[AV.bs 0 k]) [] (ksR R),.sl 0 1 (fun k:List UInt8=>[AV.bs 0 k]) [] (vsR R),.val (.int .i64 room)]⟩] (pms (.agg (toldA (.val (.slice none 0 0)) varZ 0 true (rputP R room o.v).1)) [⟨vb,.obj [.ref 1 vm 3 0 0]⟩,⟨vm,.obj [.sl 0 1 (fun k:List UInt8=>[AV.bs 0 k]) [] (ksR (rputP R room o.v).2),.sl 0 1 (fun k:List UInt8=>[AV.bs 0 k]) [] (vsR (rputP R room o.v).2),.val (.int .i64 room)]⟩] []):=by
 have hP:=rput21_vc o.v ho.v R hs hok hl room vb vm
 (
 obtain⟨K,u,x⟩:=o
 have hu:=ho.v
 have hx:=ho.x
 simp only at hu hx hK
 have hud:=hu.d
 refine spec_entry tbOk Tryz.func53 rfl Tryz.ntmps53 Tryz.results53 ?_
 unfold opA varA
 simp only[List.cons_append,List.nil_append]
 refine gg (k:= ?_))
 subst hK
 refine gg (k:= ?_)
 refine cmks (hP) Tryz.call101 (hon:=⟨(by decide:0<2),varA_on (x:= .bs 0 u.d) trivial _,trivial⟩) 2 [0,1] [0,0] [] ?_
 refine gg (k:= ?_)
 exact⟨_,rfl,rfl,trivial⟩
theorem meant_drop(o:OpV)(ho:o.Ok)(hK:o.K=2)(R:List RK)(hs:SortK R)(hl:R.length≤4096)(room:Int)(vb vm:Nat):Spec Tryz.prog 53 [.ref 0 vb 1 0 0,.agg (opA o)] [⟨vb,.obj [.ref 1 vm 3 0 0]⟩,⟨vm,.obj [.sl 0 1 (fun k:List UInt8=>[AV.bs 0 k]) [] (ksR R),.sl 0 1 (fun k:List UInt8=>[AV.bs 0 k]) [] (vsR R),.val (.int .i64 room)]⟩] (pms (.agg (toldA (.val (.slice none 0 0)) varZ 0 false (rdropP R o.v.nm o.v.g).1)) [⟨vb,.obj [.ref 1 vm 3 0 0]⟩,⟨vm,.obj [.sl 0 1 (fun k:List UInt8=>[AV.bs 0 k]) [] (ksR (rdropP R o.v.nm o.v.g).2),.sl 0 1 (fun k:List UInt8=>[AV.bs 0 k]) [] (vsR (rdropP R o.v.nm o.v.g).2),.val (.int .i64 room)]⟩] []):=by
 have hP:=rdrop21_vc o.v.nm ho.v.nm o.v.g ho.v.g R hs hl room vb vm
 (
 obtain⟨K,u,x⟩:=o
 have hu:=ho.v
 have hx:=ho.x
 simp only at hu hx hK
 have hud:=hu.d
 refine spec_entry tbOk Tryz.func53 rfl Tryz.ntmps53 Tryz.results53 ?_
 unfold opA varA
 simp only[List.cons_append,List.nil_append]
 refine gg (k:= ?_))
 subst hK
 refine gg (k:= ?_)
 refine cmks (hP) Tryz.call102 (hon:=rowu) 2 [0,1] [0,0] [] ?_
 refine gg (k:= ?_)
 exact⟨_,rfl,rfl,trivial⟩
theorem meant_next(o:OpV)(ho:o.Ok)(hK:o.K=3)(R:List RK)(room:Int)(vb vm:Nat)(a:ByteArray)(b:List UInt8)(e:Int)(hN:Spec Tryz.prog 103 [.ref 0 vb 1 0 0,.val (.string o.v.nm),.agg (bytesA 16 o.v.g)] [⟨vb,.obj [.ref 1 vm 3 0 0]⟩,⟨vm,.obj [.sl 0 1 (fun k:List UInt8=>[AV.bs 0 k]) [] (ksR R),.sl 0 1 (fun k:List UInt8=>[AV.bs 0 k]) [] (vsR R),.val (.int .i64 room)]⟩] (pms (.tup [.val (.string a),.agg (bytesA 16 b),.val (.int .i64 e)]) [⟨vb,.obj [.ref 1 vm 3 0 0]⟩,⟨vm,.obj [.sl 0 1 (fun k:List UInt8=>[AV.bs 0 k]) [] (ksR R),.sl 0 1 (fun k:List UInt8=>[AV.bs 0 k]) [] (vsR R),.val (.int .i64 room)]⟩] [])):Spec Tryz.prog 53 [.ref 0 vb 1 0 0,.agg (opA o)] [⟨vb,.obj [.ref 1 vm 3 0 0]⟩,⟨vm,.obj [.sl 0 1 (fun k:List UInt8=>[AV.bs 0 k]) [] (ksR R),.sl 0 1 (fun k:List UInt8=>[AV.bs 0 k]) [] (vsR R),.val (.int .i64 room)]⟩] (pms (.agg (toldA (.val (.slice none 0 0)) ⟨a,b,0,⟨0,0,0,0,0,0⟩,List.replicate 32 0,[]⟩ 0 false e)) [⟨vb,.obj [.ref 1 vm 3 0 0]⟩,⟨vm,.obj [.sl 0 1 (fun k:List UInt8=>[AV.bs 0 k]) [] (ksR R),.sl 0 1 (fun k:List UInt8=>[AV.bs 0 k]) [] (vsR R),.val (.int .i64 room)]⟩] []):=by
 (
 obtain⟨K,u,x⟩:=o
 have hu:=ho.v
 have hx:=ho.x
 simp only at hu hx hK
 have hud:=hu.d
 refine spec_entry tbOk Tryz.func53 rfl Tryz.ntmps53 Tryz.results53 ?_
 unfold opA varA
 simp only[List.cons_append,List.nil_append]
 refine gg (k:= ?_))
 subst hK
 refine gg (k:= ?_)
 refine cmks (hN) Tryz.call103 (hon:=rowu) (hX:=rowu) 2 [0,1] [0,0] [] ?_
 refine gg (k:= ?_)
 exact⟨_,rfl,rfl,trivial⟩
theorem meant_mark(o:OpV)(ho:o.Ok)(hK:o.K=4){R:List RK}{z:UInt8}(hz:MarkIs R z)(hs:SortK R)(hl:R.length≤4096)(room:Int)(vb vm:Nat):Spec Tryz.prog 53 [.ref 0 vb 1 0 0,.agg (opA o)] [⟨vb,.obj [.ref 1 vm 3 0 0]⟩,⟨vm,.obj [.sl 0 1 (fun k:List UInt8=>[AV.bs 0 k]) [] (ksR R),.sl 0 1 (fun k:List UInt8=>[AV.bs 0 k]) [] (vsR R),.val (.int .i64 room)]⟩] (pms (.agg (toldA (.val (.slice none 0 0)) varZ ((z.toNat:Nat):Int) false 0)) [⟨vb,.obj [.ref 1 vm 3 0 0]⟩,⟨vm,.obj [.sl 0 1 (fun k:List UInt8=>[AV.bs 0 k]) [] (ksR R),.sl 0 1 (fun k:List UInt8=>[AV.bs 0 k]) [] (vsR R),.val (.int .i64 room)]⟩] []):=by
 have hM:=rmark21_vc hz hs hl room vb vm
 have hzb:=u8n_le z
 (
 obtain⟨K,u,x⟩:=o
 have hu:=ho.v
 have hx:=ho.x
 simp only at hu hx hK
 have hud:=hu.d
 refine spec_entry tbOk Tryz.func53 rfl Tryz.ntmps53 Tryz.results53 ?_
 unfold opA varA
 simp only[List.cons_append,List.nil_append]
 refine gg (k:= ?_))
 subst hK
 refine gg (k:= ?_)
 refine cmks (hM) Tryz.call104 2 [0,1] [0,0] [] ?_
 refine gg (k:= ?_)
 exact⟨_,rfl,rfl,trivial⟩
theorem meant_note(o:OpV)(ho:o.Ok)(hK:o.K=5)(R:List RK)(hs:SortK R)(hok:∀r∈R,OkK r)(hl:R.length≤4096)(room:Int)(vb vm:Nat):Spec Tryz.prog 53 [.ref 0 vb 1 0 0,.agg (opA o)] [⟨vb,.obj [.ref 1 vm 3 0 0]⟩,⟨vm,.obj [.sl 0 1 (fun k:List UInt8=>[AV.bs 0 k]) [] (ksR R),.sl 0 1 (fun k:List UInt8=>[AV.bs 0 k]) [] (vsR R),.val (.int .i64 room)]⟩] (pms (.agg (toldA (.val (.slice none 0 0)) varZ 0 false (setE R room markK [u8 o.x]))) [⟨vb,.obj [.ref 1 vm 3 0 0]⟩,⟨vm,.obj [.sl 0 1 (fun k:List UInt8=>[AV.bs 0 k]) [] (ksR (setW R room markK [u8 o.x])),.sl 0 1 (fun k:List UInt8=>[AV.bs 0 k]) [] (vsR (setW R room markK [u8 o.x])),.val (.int .i64 room)]⟩] []):=by
 have hP:=rnote21_vc o.x ho.x R hs hok hl room vb vm
 (
 obtain⟨K,u,x⟩:=o
 have hu:=ho.v
 have hx:=ho.x
 simp only at hu hx hK
 have hud:=hu.d
 refine spec_entry tbOk Tryz.func53 rfl Tryz.ntmps53 Tryz.results53 ?_
 unfold opA varA
 simp only[List.cons_append,List.nil_append]
 refine gg (k:= ?_))
 subst hK
 refine gg (k:= ?_)
 refine cmks (hP) Tryz.call105 2 [0,1] [0,0] [] ?_
 refine gg (k:= ?_)
 exact⟨_,rfl,rfl,trivial⟩
theorem meant_other(o:OpV)(ho:o.Ok)(hK:¬(0≤o.K∧o.K≤5))(R:List RK)(room:Int)(vb vm:Nat):Spec Tryz.prog 53 [.ref 0 vb 1 0 0,.agg (opA o)] [⟨vb,.obj [.ref 1 vm 3 0 0]⟩,⟨vm,.obj [.sl 0 1 (fun k:List UInt8=>[AV.bs 0 k]) [] (ksR R),.sl 0 1 (fun k:List UInt8=>[AV.bs 0 k]) [] (vsR R),.val (.int .i64 room)]⟩] (pms (.agg (toldA (.val (.slice none 0 0)) varZ 0 false 0)) [⟨vb,.obj [.ref 1 vm 3 0 0]⟩,⟨vm,.obj [.sl 0 1 (fun k:List UInt8=>[AV.bs 0 k]) [] (ksR R),.sl 0 1 (fun k:List UInt8=>[AV.bs 0 k]) [] (vsR R),.val (.int .i64 room)]⟩] []):=by
 (
 obtain⟨K,u,x⟩:=o
 have hu:=ho.v
 have hx:=ho.x
 simp only at hu hx hK
 have hud:=hu.d
 refine spec_entry tbOk Tryz.func53 rfl Tryz.ntmps53 Tryz.results53 ?_
 unfold opA varA
 simp only[List.cons_append,List.nil_append]
 refine gg (k:= ?_))
 exact⟨_,rfl,rfl,trivial⟩
end Go.Proofs.YtpbpiehcchannaaGreatDoor
namespace Go.Proofs.YtpbpiehcchannaaGreatDoor
open Go.RowKit
set_option linter.unusedVariables false
set_option linter.unusedSimpArgs false
set_option maxRecDepth 100000
set_option maxHeartbeats 3000000
structure TdV where
 u:VarV
 n:Int
 is:Bool
 e:Int
def tdA(t:TdV):List AV:=toldA (.bs 0 t.u.d) t.u t.n t.is t.e
theorem sameT21_vc(t:TdV)(ht:t.u.Ok):Spec Tryz.prog 54 [.agg (tdA t),.agg (tdA t)] [] (pms (.val (.bool true)) [] []):=by
 have hS:=samevar_vc t.u t.u ht ht 0 0
 rw[(sameV_iff ht ht).2 rfl] at hS
 refine spec_entry tbOk Tryz.func54 rfl Tryz.ntmps54 Tryz.results54 ?_
 refine gg (k:= ?_)
 refine cmks (hS) Tryz.call49 (hon:=⟨varA_on (x:= .bs 0 t.u.d) trivial t.u,varA_on (x:= .bs 0 t.u.d) trivial t.u,trivial⟩) 0 [] [] [] ?_
 refine ggO (k:= ?_)
 exact⟨_,congrArg AV.val (congrArg Value.bool (by simp)),rfl,trivial⟩
theorem knext_r {W : Int} {n k : Nat} (s : FlS) (c : Nat) {M R : List RK} (m : LK s c M) (rm : RM M R) (go : Goes W n k s) (pa : Lies n k 0 c) (pb : Lies n k c c) {V : List VarV} (hV : VR R V) (hRl : R.length ≤ 1000) (hkl : ∀ k ∈ ksR R, k.length ≤ 140737488355328) (i : Nat) (hi : i ≤ V.length) (vk vs va vb v0 v1 : Nat) : Spec Tryz.prog 45 [.ref 0 vk 1 0 0, .val (.string (nmAt V i)), .agg (bytesA 16 (gAt V i))] [⟨vk, .obj [.ref 1 vs 3 0 0]⟩, ⟨vs, .obj [.ref 4 v0 6 0 0, .ref 2 va 3 0 0, .ref 3 vb 3 0 0]⟩, ⟨va, .obj [.ref 4 v0 6 0 0, .val (.int .i64 ((0 : Nat) : Int)), .val (.int .i64 (c : Int))]⟩, ⟨vb, .obj [.ref 4 v0 6 0 0, .val (.int .i64 (c : Int)), .val (.int .i64 (c : Int))]⟩, ⟨v0, .obj [.own 5 v1 1 0 s.l.length, .val (.int .i64 (s.k : Int)), .val (.int .i64 s.ar), .val (.int .i64 s.pt), .val (.bool s.dd), .val (.int .i64 s.wr)]⟩, ⟨v1, .bytes s.l⟩]
   (pms (nextV V i) [⟨vk,.obj [.ref 1 vs 3 0 0]⟩,⟨vs,.obj [.ref 4 v0 6 0 0,.ref 2 va 3 0 0,.ref 3 vb 3 0 0]⟩,⟨va,.obj [.ref 4 v0 6 0 0,.val (.int .i64 ((0:Nat):Int)),.val (.int .i64 (c:Int))]⟩,⟨vb,.obj [.ref 4 v0 6 0 0,.val (.int .i64 (c:Int)),.val (.int .i64 (c:Int))]⟩,⟨v0,.obj [.own 5 v1 1 0 s.l.length,.val (.int .i64 (s.k:Int)),.val (.int .i64 s.ar),.val (.int .i64 s.pt),.val (.bool s.dd),.val (.int .i64 s.wr)]⟩,⟨v1,.bytes s.l⟩] []):=by
 have hks:srtK (M.map fun r=>r.key)=ksR R:=rm.keys
 have hkn:(ksR R).length≤140737488355328:=by rw[ksR_len];omega
 have hvk:∀k∈V.map kV,isVK k=true:=by
  intro k hk
  obtain⟨v,hv,rfl⟩:=List.mem_map.1 hk
  exact kV_vk (hV.ok v hv)
 cases i with
 | zero=>
  have h:=knext_any s c m go pa pb (ksR R) hks hkl hkn [] vk vs va vb v0 v1
  rw[hV.nextA,nextA_key (i:=0) hV.ok (find_first fun k hk=>⟨hvk k hk,by
   obtain⟨v,hv,rfl⟩:=List.mem_map.1 hk
   exact kV_cons (hV.ok v hv)⟩)] at h
  exact h
 | succ i=>
  have hlt:i<V.length:=hi
  have hv:V.getD i varZ=V[i]:=by rw[List.getD_eq_getElem?_getD,List.getElem?_eq_getElem hlt];rfl
  have hok:=hV.ok _ (List.getElem_mem hlt)
  have h:=knext_vc s c m go pa pb (ksR R) hks hkl hkn V[i].nm hok.r V[i].g hok.ok.g vk vs va vb v0 v1
  have hf:=find_next (hV.st rm.sort) hvk i (by rw[List.length_map];exact hlt)
  rw[List.getElem_map] at hf
  have hnk:=nextA_key (i:=i+1) hV.ok hf
  unfold kV at hnk
  rw[hV.nextA] at h
  unfold kV at h
  rw[hnk] at h
  have e1:nmAt V (i+1)=V[i].nm:=by show(V.getD i varZ).nm=_;rw[hv]
  have e2:gAt V (i+1)=V[i].g:=by show(V.getD i varZ).g=_;rw[hv]
  rw[e1,e2]
  exact h
theorem kmark_r {W : Int} {n k : Nat} (s : FlS) (c : Nat) {M R : List RK} (m : LK s c M) (rm : RM M R) (go : Goes W n k s) (pa : Lies n k 0 c) (pb : Lies n k c c) {x : UInt8} (hx : MarkIs R x) (vk vs va vb v0 v1 : Nat) : Spec Tryz.prog 47 [.ref 0 vk 1 0 0] [⟨vk, .obj [.ref 1 vs 3 0 0]⟩, ⟨vs, .obj [.ref 4 v0 6 0 0, .ref 2 va 3 0 0, .ref 3 vb 3 0 0]⟩, ⟨va, .obj [.ref 4 v0 6 0 0, .val (.int .i64 ((0 : Nat) : Int)), .val (.int .i64 (c : Int))]⟩, ⟨vb, .obj [.ref 4 v0 6 0 0, .val (.int .i64 (c : Int)), .val (.int .i64 (c : Int))]⟩, ⟨v0, .obj [.own 5 v1 1 0 s.l.length, .val (.int .i64 (s.k : Int)), .val (.int .i64 s.ar), .val (.int .i64 s.pt), .val (.bool s.dd), .val (.int .i64 s.wr)]⟩, ⟨v1, .bytes s.l⟩]
   (pms (.tup [.val (bv x),.val (.int .i64 0)]) [⟨vk,.obj [.ref 1 vs 3 0 0]⟩,⟨vs,.obj [.ref 4 v0 6 0 0,.ref 2 va 3 0 0,.ref 3 vb 3 0 0]⟩,⟨va,.obj [.ref 4 v0 6 0 0,.val (.int .i64 ((0:Nat):Int)),.val (.int .i64 (c:Int))]⟩,⟨vb,.obj [.ref 4 v0 6 0 0,.val (.int .i64 (c:Int)),.val (.int .i64 (c:Int))]⟩,⟨v0,.obj [.own 5 v1 1 0 s.l.length,.val (.int .i64 (s.k:Int)),.val (.int .i64 s.ar),.val (.int .i64 s.pt),.val (.bool s.dd),.val (.int .i64 s.wr)]⟩,⟨v1,.bytes s.l⟩] []):=by
 cases hx with
 | no h=>exact kmark_no s c m go pa pb (fun r hr=>h r (rm.perm.mem_iff.2 hr)) vk vs va vb v0 v1
 | yes _ h=>exact kmark_in s c m go pa pb x (rm.perm.mem_iff.1 h) vk vs va vb v0 v1
theorem MarkIs.uniq{R:List RK}(hs:SortK R){x z:UInt8}(hx:MarkIs R x)(hz:MarkIs R z):x=z:=by
 cases hx with
 | yes _ h=>
  cases hz with
  | yes _ h'=>have:=hs.one h h' rfl;injection this with _ e _;injection e
  | no h'=>exact absurd rfl (h' _ h)
 | no h=>
  cases hz with
  | yes _ h'=>exact absurd rfl (h _ h')
  | no _=>rfl
theorem take_at{V V':List VarV}{i:Nat}(h1:i≤V'.length)(h2:i≤V.length)(h:V.take i=V'.take i):nmAt V' i=nmAt V i∧gAt V' i=gAt V i:=by
 cases i with
 | zero=>exact⟨rfl,rfl⟩
 | succ i=>
  have e:V'.getD i varZ=V.getD i varZ:=by
   have e1:(V.take (i+1))[i]? =(V'.take (i+1))[i]?:=by rw[h]
   rw[List.getElem?_take_of_lt (Nat.lt_succ_self i),List.getElem?_take_of_lt (Nat.lt_succ_self i)] at e1
   rw[List.getD_eq_getElem?_getD,List.getD_eq_getElem?_getD,e1]
  exact⟨congrArg VarV.nm e,congrArg VarV.g e⟩
theorem bnot2(p q:Bool):(!decide ((0:Int)=0)|| !p|| !q)= !(p&&q):=by cases p<;>cases q<;>rfl
theorem holds21_g {s : FlS} {y n : Nat} {M R : List RK} (hlk : LK s 1 M) (hrm : RM M R) (hgo : Goes (1000 + n * 300000000000) (2 * y) y s) (hrc : ∀ r ∈ R, RecB r) (hRl : R.length ≤ n) (hy : 128 ≤ y ∧ y ≤ 2175) (hn : n ≤ 900) {V : List VarV} (hV : VR R V) {R' : List RK} {V' : List VarV} (hV' : VR R' V') (hrc' : ∀ r ∈ R', RecB r) (hs' : SortK R') (hl' : R'.length ≤ 1000) (hVV : R = R' → V = V') (b : Bool) (hb : b = true ↔ R = R') (room : Int) (vk vs va vb v0 v1 wb wm : Nat) :
    Spec Tryz.prog 55 [.ref 0 vk 1 0 0,.ref 6 wb 1 0 0] [⟨vk,.obj [.ref 1 vs 3 0 0]⟩,⟨vs,.obj [.ref 4 v0 6 0 0,.ref 2 va 3 0 0,.ref 3 vb 3 0 0]⟩,⟨va,.obj [.ref 4 v0 6 0 0,.val (.int .i64 ((0:Nat):Int)),.val (.int .i64 (1:Int))]⟩,⟨vb,.obj [.ref 4 v0 6 0 0,.val (.int .i64 (1:Int)),.val (.int .i64 (1:Int))]⟩,⟨v0,.obj [.own 5 v1 1 0 s.l.length,.val (.int .i64 (s.k:Int)),.val (.int .i64 s.ar),.val (.int .i64 s.pt),.val (.bool s.dd),.val (.int .i64 s.wr)]⟩,⟨v1,.bytes s.l⟩,⟨wb,.obj [.ref 7 wm 3 0 0]⟩,⟨wm,.obj [.sl 0 1 (fun k:List UInt8=>[AV.bs 0 k]) [] (ksR R'),.sl 0 1 (fun k:List UInt8=>[AV.bs 0 k]) [] (vsR R'),.val (.int .i64 room)]⟩] (pms (.val (.bool b)) [⟨vk,.obj [.ref 1 vs 3 0 0]⟩,⟨vs,.obj [.ref 4 v0 6 0 0,.ref 2 va 3 0 0,.ref 3 vb 3 0 0]⟩,⟨va,.obj [.ref 4 v0 6 0 0,.val (.int .i64 ((0:Nat):Int)),.val (.int .i64 (1:Int))]⟩,⟨vb,.obj [.ref 4 v0 6 0 0,.val (.int .i64 (1:Int)),.val (.int .i64 (1:Int))]⟩,⟨v0,.obj [.own 5 v1 1 0 s.l.length,.val (.int .i64 (s.k:Int)),.val (.int .i64 s.ar),.val (.int .i64 s.pt),.val (.bool s.dd),.val (.int .i64 s.wr)]⟩,⟨v1,.bytes s.l⟩,⟨wb,.obj [.ref 7 wm 3 0 0]⟩,⟨wm,.obj [.sl 0 1 (fun k:List UInt8=>[AV.bs 0 k]) [] (ksR R'),.sl 0 1 (fun k:List UInt8=>[AV.bs 0 k]) [] (vsR R'),.val (.int .i64 room)]⟩] []):=by
 have la:=lie0 hy
 have lb:=lie1 hy
 have hVl:=hV.len
 have hVl':=hV'.len
 have hsR:=hrm.sort
 obtain⟨x,hx⟩:=MarkIs.of hrc
 obtain⟨x',hx'⟩:=MarkIs.of hrc'
 have hkl:∀k∈ksR R,k.length≤140737488355328:=by
  intro k hk
  obtain⟨r,hr,rfl⟩:=List.mem_map.1 hk
  have:=(hrc r hr).okK.1.2
  omega
 have hnx:=fun i hi=>knext_r s 1 hlk hrm hgo la lb hV (by omega) hkl i hi vk vs va vb v0 v1
 have hGz:=fun(v:VarV)(hv:v∈V)=>kget_z s 1 hlk hgo la lb v (hV.ok v hv) (hrm.perm.mem_iff.1 (hV.mem hv)) vk vs va vb v0 v1
 have hMk:=kmark_r s 1 hlk hrm hgo la lb hx vk vs va vb v0 v1
 have hUs:=kused_vc s 1 hlk hgo la lb vk vs va vb v0 v1
 rw[←hrm.used] at hUs
 have hAl:=rall21_vc hV' hrc' hs' (by omega) room wb wm
 have hRm:=rmark21_vc hx' hs' (by omega) room wb wm
 have hRu:=rused21_vc R' (fun r hr=>(hrc' r hr).okK) (by omega) room wb wm
 have hmap:=fun(e:V=V')(e2:x=x')(e3:usedK R=usedK R')=>map_eq hrc hrc' hsR hs' hV (e▸hV') hx (e2▸hx') e3
 have hxx:R=R'→x=x':=fun e=>MarkIs.uniq hsR hx (e▸hx')
 have hVo:=hV.ok
 have hVo':=hV'.ok
 clear hx hx' hrm hlk hV hV'
 refine spec_entry tbOk Tryz.func55 rfl Tryz.ntmps55 Tryz.results55 ?_
 refine gg (k:= ?_)
 refine cmks (hAl) Tryz.call106 (hX:=fun a=>varA_on (x:= .bs 0 a.d) trivial a) 2 [6,7] [0,0] [] ?_
 refine gg (k:= ?_)
 (refine sts (k:= ?_))
 conv=>whnf
 refine loop_at (fun i:Nat=>i≤V'.length∧i≤V.length∧V.take i=V'.take i) (fun i=>V'.length - i) 8 [4,6,8,9,10,11,12,13,26,27,28,29,30,31,32,33,34,35,36,37,38,39,40,41,42,43,44,45,46,47,48,49,50,51,52,53,54,55,56,57,58,59,60,61,62,63,64,65,66,67,68,69,70,71,72,73,74,75,76,77,78,79,80,81,82,83,84] (fun i=>[(5,.sl 0 57 (fun v:VarV=>varA (.bs 0 v.d) v) varZ V'),(6,.val (.string (nmAt V' i))),(8,.val (.int .i64 (i:Int)))]) (fun i=>[(15,⟨1,.obj (bytesA 16 (gAt V' i))⟩)]) 0 ⟨Nat.zero_le _,Nat.zero_le _,rfl⟩ ?_ ?_ ?_
 ·exact no_implicit_lambda%ten
 ·exact no_implicit_lambda%hen
 ·rintro i w ⟨i1,i2,i3⟩
  have hna:nmAt V' i=nmAt V i∧gAt V' i=gAt V i:=take_at i1 i2 i3
  have hN:=hnx i i2
  refine glp (k:= ?_)
  rw[hna.1,hna.2]
  refine gg (k:= ?_)
  refine⟨fun h=> ?_,fun h=> ?_⟩
  ·have hlt':i<V'.length:=by have:=of_decide_eq_true h;omega
   have hge':V'[i]? =some (V'.getD i varZ):=by rw[List.getD_eq_getElem?_getD,List.getElem?_eq_getElem hlt'];rfl
   have hvm':V'.getD i varZ∈V':=List.mem_of_getElem? hge'
   have hu':=hVo' _ hvm'
   refine gg (k:= ?_)
   refine cmks (hN) Tryz.call45 (hon:=rowu) (hX:=nextV_on _ _) 6 [0,1,2,3,4,5] [0,0,0,0,0,0] [] ?_
   by_cases hlt:i<V.length
   case neg=>
    unfold nextV
    rw[List.getElem?_eq_none (by omega)]
    simp only
    refine ggO (k:= ?_)
    (refine sts (k:= ?_))
    refine draw_of (p:=8) tbOk hm [0,1,3,7,7,7,55,119,247,511,1023,2047,4095,4095,4095,28671,61439,126975,262143,524287] [⟨0,false,false,[]⟩,⟨1,false,false,[]⟩,⟨2,false,false,[]⟩,⟨3,false,false,[]⟩,⟨4,false,false,[]⟩,⟨5,false,false,[]⟩,⟨6,true,false,[43,47,48,49,50,51,52,53,54,55,56,57,58,59]⟩,⟨7,true,false,[43,48,49,50,51,52,53,54,55,56,57,58,59]⟩,⟨8,true,false,[43,49,50,51,52,53,54,55,56,57,58,59]⟩,⟨9,false,false,[]⟩,⟨10,false,false,[]⟩,⟨11,false,false,[]⟩,⟨12,true,false,[53,54,55,56,57,58,59]⟩,⟨13,false,false,[]⟩,⟨14,false,false,[]⟩,⟨15,true,false,[52,56,57,58,59]⟩,⟨16,true,false,[52,57,58,59]⟩,⟨17,true,false,[52,58,59]⟩,⟨18,false,false,[]⟩,⟨19,false,false,[]⟩] (by kernel_rfl) ?_
    refine ggO (k:= ?_)
    (
 rw[show b=false from Bool.eq_false_iff.2 fun hb1=>by
  have hVe:=hVV (hb.1 hb1)
  exact absurd (congrArg List.length hVe) (by omega)]
 exact ⟨_, rfl, rfl, trivial⟩)
   have hge:V[i]? =some (V.getD i varZ):=by rw[List.getD_eq_getElem?_getD,List.getElem?_eq_getElem hlt];rfl
   have hvm:V.getD i varZ∈V:=List.mem_of_getElem? hge
   have hu:=hVo _ hvm
   have hG:=hGz _ hvm
   unfold nextV
   rw[hge]
   simp only
   refine ggO (k:= ?_)
   (refine sts (k:= ?_))
   refine draw_of (p:=8) tbOk hm [0,1,3,7,7,7,55,119,247,511,1023,2047,4095,4095,4095,28671,61439,126975,262143,524287] [⟨0,false,false,[]⟩,⟨1,false,false,[]⟩,⟨2,false,false,[]⟩,⟨3,false,false,[]⟩,⟨4,false,false,[]⟩,⟨5,false,false,[]⟩,⟨6,true,false,[43,47,48,49,50,51,52,53,54,55,56,57,58,59]⟩,⟨7,true,false,[43,48,49,50,51,52,53,54,55,56,57,58,59]⟩,⟨8,true,false,[43,49,50,51,52,53,54,55,56,57,58,59]⟩,⟨9,false,false,[]⟩,⟨10,false,false,[]⟩,⟨11,false,false,[]⟩,⟨12,true,false,[53,54,55,56,57,58,59]⟩,⟨13,false,false,[]⟩,⟨14,false,false,[]⟩,⟨15,true,false,[52,56,57,58,59]⟩,⟨16,true,false,[52,57,58,59]⟩,⟨17,true,false,[52,58,59]⟩,⟨18,false,false,[]⟩,⟨19,false,false,[]⟩] (by kernel_rfl) ?_
   refine ggO (k:= ?_)
   generalize hyy:V'.getD (Int.toNat (i:Int)) varZ=yy
   have hyy':V'.getD i varZ=yy:=by rw[←hyy,Int.toNat_natCast]
   subst hyy'
   rw[show(!decide ((0:Int)=0)|| !decide ((V.getD i varZ).nm.data.toList=(V'.getD i varZ).nm.data.toList)|| !eqVs [bv ((V.getD i varZ).g.getD 0 0),bv ((V.getD i varZ).g.getD 1 0),bv ((V.getD i varZ).g.getD 2 0),bv ((V.getD i varZ).g.getD 3 0),bv ((V.getD i varZ).g.getD 4 0),bv ((V.getD i varZ).g.getD 5 0),bv ((V.getD i varZ).g.getD 6 0),bv ((V.getD i varZ).g.getD 7 0),bv ((V.getD i varZ).g.getD 8 0),bv ((V.getD i varZ).g.getD 9 0),bv ((V.getD i varZ).g.getD 10 0),bv ((V.getD i varZ).g.getD 11 0),bv ((V.getD i varZ).g.getD 12 0),bv ((V.getD i varZ).g.getD 13 0),bv ((V.getD i varZ).g.getD 14 0),bv ((V.getD i varZ).g.getD 15 0)] [bv ((V'.getD i varZ).g.getD 0 0),bv ((V'.getD i varZ).g.getD 1 0),bv ((V'.getD i varZ).g.getD 2 0),bv ((V'.getD i varZ).g.getD 3 0),bv ((V'.getD i varZ).g.getD 4 0),bv ((V'.getD i varZ).g.getD 5 0),bv ((V'.getD i varZ).g.getD 6 0),bv ((V'.getD i varZ).g.getD 7 0),bv ((V'.getD i varZ).g.getD 8 0),bv ((V'.getD i varZ).g.getD 9 0),bv ((V'.getD i varZ).g.getD 10 0),bv ((V'.getD i varZ).g.getD 11 0),bv ((V'.getD i varZ).g.getD 12 0),bv ((V'.getD i varZ).g.getD 13 0),bv ((V'.getD i varZ).g.getD 14 0),bv ((V'.getD i varZ).g.getD 15 0)])= !decide ((V.getD i varZ).nm=(V'.getD i varZ).nm∧(V.getD i varZ).g=(V'.getD i varZ).g) from by rw[←ng_eq (V.getD i varZ).nm (V'.getD i varZ).nm (V.getD i varZ).g (V'.getD i varZ).g hu.ok.g hu'.ok.g];exact bnot2 _ _]
   by_cases hs:(V.getD i varZ).nm=(V'.getD i varZ).nm∧(V.getD i varZ).g=(V'.getD i varZ).g
   case neg=>
    rw[decide_eq_false hs]
    refine ggO (k:= ?_)
    (
 rw[show b=false from Bool.eq_false_iff.2 fun hb1=>by
  have hVe:=hVV (hb.1 hb1)
  exact hs ⟨by rw[hVe],by rw[hVe]⟩]
 exact ⟨_, rfl, rfl, trivial⟩)
   rw[decide_eq_true hs]
   refine ggO (k:= ?_)
   refine cmks (hG) Tryz.call44 (hon:=rowu) 6 [0,1,2,3,4,5] [0,0,0,0,0,0] [] ?_
   refine ggO (k:= ?_)
   (refine sts (k:= ?_))
   refine draw_of (p:=8) tbOk hm [0,1,3,7,15,31,63,127,127,127,895,1919,4095,8191,16383] [⟨0,false,false,[]⟩,⟨1,false,false,[]⟩,⟨2,false,false,[]⟩,⟨3,false,false,[]⟩,⟨4,false,false,[]⟩,⟨5,false,false,[]⟩,⟨6,false,false,[]⟩,⟨7,true,false,[76,77,78,79,80,81,82]⟩,⟨8,false,false,[]⟩,⟨9,false,false,[]⟩,⟨10,true,false,[75,79,80,81,82]⟩,⟨11,true,false,[75,80,81,82]⟩,⟨12,true,false,[81,82]⟩,⟨13,false,false,[]⟩,⟨14,false,false,[]⟩] (by kernel_rfl) ?_
   refine ggO (k:= ?_)
   generalize hyz:V'.getD (Int.toNat (i:Int)) varZ=yz
   have hyz':V'.getD i varZ=yz:=by rw[←hyz,Int.toNat_natCast]
   subst hyz'
   conv=>whnf
   refine gcl (hA:=fun hG=>⟨trivial,hG,hG,trivial⟩) (k:= ?_)
   refine cmks (samevar_vc (V.getD i varZ) (V'.getD i varZ) hu.ok hu'.ok 0 0) Tryz.call49 (hon:=⟨varA_on (x:= .bs 0 _) trivial _,varA_on (x:= .bs 0 _) trivial _,trivial⟩) 0 [] [] [] ?_
   by_cases huv:V.getD i varZ=V'.getD i varZ
   case neg=>
    rw[show sameV (V.getD i varZ) (V'.getD i varZ)=false from Bool.eq_false_iff.2 fun q=>huv ((sameV_iff hu.ok hu'.ok).1 q)]
    refine ggO (k:= ?_)
    (
 rw[show b=false from Bool.eq_false_iff.2 fun hb1=>by
  have hVe:=hVV (hb.1 hb1)
  exact huv (by rw[hVe])]
 exact ⟨_, rfl, rfl, trivial⟩)
   rw[(sameV_iff hu.ok hu'.ok).2 huv]
   refine ggO (k:= ?_)
   have htk:V.take (i+1)=V'.take (i+1):=by
    rw[List.take_succ_eq_append_getElem hlt,List.take_succ_eq_append_getElem hlt',i3]
    have e1:V[i]=V.getD i varZ:=by rw[List.getD_eq_getElem?_getD,List.getElem?_eq_getElem hlt];rfl
    have e2:V'[i]=V'.getD i varZ:=by rw[List.getD_eq_getElem?_getD,List.getElem?_eq_getElem hlt'];rfl
    rw[e1,e2,huv]
   rw[huv]
   refine back_at (i+1) ⟨hlt',hlt,htk⟩ (by show V'.length - (i+1)<V'.length - i;omega) ?_ ?_
   ·exact no_implicit_lambda%ten
   ·exact no_implicit_lambda%hen
  ·have hi:i=V'.length:=by have:=of_decide_eq_false h;omega
   subst hi
   refine gg (k:= ?_)
   refine cmks (hN) Tryz.call45 (hon:=rowu) (hX:=nextV_on _ _) 6 [0,1,2,3,4,5] [0,0,0,0,0,0] [] ?_
   unfold nextV
   rcases Nat.lt_or_ge V'.length V.length with hlt | hge
   ·rw[show V[V'.length]? =some (V.getD V'.length varZ) by rw[List.getD_eq_getElem?_getD,List.getElem?_eq_getElem hlt];rfl]
    simp only
    refine ggO (k:= ?_)
    (
 refine cmks (hMk) Tryz.call47 6 [0,1,2,3,4,5] [0,0,0,0,0,0] [] ?_
 refine ggO (k:= ?_)
 refine cmks (hRm) Tryz.call104 2 [6,7] [0,0] [] ?_
 refine ggO (k:= ?_)
 refine cmks (hUs) Tryz.call62 6 [0,1,2,3,4,5] [0,0,0,0,0,0] [] ?_
 refine ggO (k := ?_))
    intro _
    refine ggO (k:= ?_)
    (
 rw[show b=false from Bool.eq_false_iff.2 fun hb1=>by
  have hVe:=hVV (hb.1 hb1)
  exact absurd (congrArg List.length hVe) (by omega)]
 exact ⟨_, rfl, rfl, trivial⟩)
   ·have hVe:V=V':=by
      have e1:=i3
      rw[List.take_length,List.take_of_length_le hge] at e1
      exact e1
    rw[List.getElem?_eq_none (by omega)]
    simp only
    refine ggO (k:= ?_)
    (
 refine cmks (hMk) Tryz.call47 6 [0,1,2,3,4,5] [0,0,0,0,0,0] [] ?_
 refine ggO (k:= ?_)
 refine cmks (hRm) Tryz.call104 2 [6,7] [0,0] [] ?_
 refine ggO (k:= ?_)
 refine cmks (hUs) Tryz.call62 6 [0,1,2,3,4,5] [0,0,0,0,0,0] [] ?_
 refine ggO (k := ?_))
    by_cases hxe:x=x'
    ·rw[show decide (((x.toNat:Nat):Int)=((x'.toNat:Nat):Int))=true from decide_eq_true (by rw[hxe])]
     conv=>whnf
     refine gcl (hA:=fun hG=>⟨trivial,hG,trivial⟩) (k:= ?_)
     refine cmks (hRu) Tryz.call107 2 [6,7] [0,0] [] ?_
     refine ggO (k:= ?_)
     have hbu:b=decide ((usedK R:Int)=(usedK R':Int)):=by
      rw[Bool.eq_iff_iff,hb,decide_eq_true_eq]
      constructor
      ·intro e;rw[e]
      ·intro e;exact hmap hVe hxe (by exact_mod_cast e)
     rw[hbu]
     exact⟨_,congrArg AV.val (congrArg Value.bool (by simp)),rfl,trivial⟩
    ·rw[show decide (((x.toNat:Nat):Int)=((x'.toNat:Nat):Int))=false from decide_eq_false fun e=>hxe (UInt8.toNat_inj.1 (by exact_mod_cast e))]
     refine ggO (k:= ?_)
     intro _
     refine ggO (k:= ?_)
     rw[show b=false from Bool.eq_false_iff.2 fun hb1=>hxe (hxx (hb.1 hb1))]
     exact⟨_,rfl,rfl,trivial⟩
theorem holds21_vc {s : FlS} {y n : Nat} {R : List RK} (h : BR s y n R) (hy : 128 ≤ y ∧ y ≤ 2175) (hn : n ≤ 900) {V : List VarV} (hV : VR R V) {R' : List RK} {V' : List VarV} (hV' : VR R' V') (hrc' : ∀ r ∈ R', RecB r) (hs' : SortK R') (hl' : R'.length ≤ 1000) (hVV : R = R' → V = V') (b : Bool) (hb : b = true ↔ R = R') (room : Int) (vk vs va vb v0 v1 wb wm : Nat) :
    Spec Tryz.prog 55 [.ref 0 vk 1 0 0,.ref 6 wb 1 0 0] [⟨vk,.obj [.ref 1 vs 3 0 0]⟩,⟨vs,.obj [.ref 4 v0 6 0 0,.ref 2 va 3 0 0,.ref 3 vb 3 0 0]⟩,⟨va,.obj [.ref 4 v0 6 0 0,.val (.int .i64 ((0:Nat):Int)),.val (.int .i64 (1:Int))]⟩,⟨vb,.obj [.ref 4 v0 6 0 0,.val (.int .i64 (1:Int)),.val (.int .i64 (1:Int))]⟩,⟨v0,.obj [.own 5 v1 1 0 s.l.length,.val (.int .i64 (s.k:Int)),.val (.int .i64 s.ar),.val (.int .i64 s.pt),.val (.bool s.dd),.val (.int .i64 s.wr)]⟩,⟨v1,.bytes s.l⟩,⟨wb,.obj [.ref 7 wm 3 0 0]⟩,⟨wm,.obj [.sl 0 1 (fun k:List UInt8=>[AV.bs 0 k]) [] (ksR R'),.sl 0 1 (fun k:List UInt8=>[AV.bs 0 k]) [] (vsR R'),.val (.int .i64 room)]⟩] (pms (.val (.bool b)) [⟨vk,.obj [.ref 1 vs 3 0 0]⟩,⟨vs,.obj [.ref 4 v0 6 0 0,.ref 2 va 3 0 0,.ref 3 vb 3 0 0]⟩,⟨va,.obj [.ref 4 v0 6 0 0,.val (.int .i64 ((0:Nat):Int)),.val (.int .i64 (1:Int))]⟩,⟨vb,.obj [.ref 4 v0 6 0 0,.val (.int .i64 (1:Int)),.val (.int .i64 (1:Int))]⟩,⟨v0,.obj [.own 5 v1 1 0 s.l.length,.val (.int .i64 (s.k:Int)),.val (.int .i64 s.ar),.val (.int .i64 s.pt),.val (.bool s.dd),.val (.int .i64 s.wr)]⟩,⟨v1,.bytes s.l⟩,⟨wb,.obj [.ref 7 wm 3 0 0]⟩,⟨wm,.obj [.sl 0 1 (fun k:List UInt8=>[AV.bs 0 k]) [] (ksR R'),.sl 0 1 (fun k:List UInt8=>[AV.bs 0 k]) [] (vsR R'),.val (.int .i64 room)]⟩] []):=by
 obtain⟨M,hlk,hrm⟩:=h.lk
 exact holds21_g hlk hrm h.go h.rc h.sm.len hy hn hV hV' hrc' hs' hl' hVV b hb room vk vs va vb v0 v1 wb wm
end Go.Proofs.YtpbpiehcchannaaGreatDoor
