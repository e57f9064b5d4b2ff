/- What is done with a book and beside it with the document's. Walk of lintellaw21: KeepPlays. Conditions: the premises of each law. -/
import Derived.Test.YtpbpiehcchannaaGreatDoorJKqh
import Derived.Test.YtpbpiehcchannaaGreatDoorJKqf
import Derived.Test.YtpbpiehcchannaaGreatDoorJKk
namespace Go.Proofs.YtpbpiehcchannaaGreatDoor
open Go.RowKit
set_option linter.unusedVariables false
set_option linter.unusedSimpArgs false
set_option maxRecDepth 100000
set_option maxHeartbeats 1500000
theorem does_nil21{s s2:FlS}{o:OpV}{u:VarV}{n:Int}{is:Bool}{e:Int}{vk vs va vb v0 v1 vk2 vs2 va2 vb2:Nat}(hd:u.d=[])(h:Spec Tryz.prog 48 [.ref 4 v0 6 0 0,.ref 0 vk 1 0 0,.agg (opA o)] [⟨vk,.obj [.ref 1 vs 3 0 0]⟩,⟨vs,.obj [.ref 4 v0 6 0 0,.ref 2 va 3 0 0,.ref 3 vb 3 0 0]⟩,⟨va,.obj [.ref 4 v0 6 0 0,.val (.int .i64 ((0:Nat):Int)),.val (.int .i64 (1:Int))]⟩,⟨vb,.obj [.ref 4 v0 6 0 0,.val (.int .i64 (1:Int)),.val (.int .i64 (1:Int))]⟩,⟨v0,.obj [.own 5 v1 1 0 s.l.length,.val (.int .i64 (s.k:Int)),.val (.int .i64 s.ar),.val (.int .i64 s.pt),.val (.bool s.dd),.val (.int .i64 s.wr)]⟩,⟨v1,.bytes s.l⟩] (pms (.tup [.agg (toldA (.val (.slice none 0 0)) u n is e),.ref 0 (vk2) 1 0 0]) [⟨(vk2),.obj [.ref 1 (vs2) 3 0 0]⟩,⟨(vs2),.obj [.ref 4 v0 6 0 0,.ref 2 (va2) 3 0 0,.ref 3 (vb2) 3 0 0]⟩,⟨(va2),.obj [.ref 4 v0 6 0 0,.val (.int .i64 ((0:Nat):Int)),.val (.int .i64 (1:Int))]⟩,⟨(vb2),.obj [.ref 4 v0 6 0 0,.val (.int .i64 (1:Int)),.val (.int .i64 (1:Int))]⟩,⟨v0,.obj [.own 5 v1 1 0 s2.l.length,.val (.int .i64 (s2.k:Int)),.val (.int .i64 s2.ar),.val (.int .i64 s2.pt),.val (.bool s2.dd),.val (.int .i64 s2.wr)]⟩,⟨v1,.bytes s2.l⟩] [])):Spec Tryz.prog 48 [.ref 4 v0 6 0 0,.ref 0 vk 1 0 0,.agg (opA o)] [⟨vk,.obj [.ref 1 vs 3 0 0]⟩,⟨vs,.obj [.ref 4 v0 6 0 0,.ref 2 va 3 0 0,.ref 3 vb 3 0 0]⟩,⟨va,.obj [.ref 4 v0 6 0 0,.val (.int .i64 ((0:Nat):Int)),.val (.int .i64 (1:Int))]⟩,⟨vb,.obj [.ref 4 v0 6 0 0,.val (.int .i64 (1:Int)),.val (.int .i64 (1:Int))]⟩,⟨v0,.obj [.own 5 v1 1 0 s.l.length,.val (.int .i64 (s.k:Int)),.val (.int .i64 s.ar),.val (.int .i64 s.pt),.val (.bool s.dd),.val (.int .i64 s.wr)]⟩,⟨v1,.bytes s.l⟩] (pms (.tup [.agg (tdA ⟨u,n,is,e⟩),.ref 0 (vk2) 1 0 0]) [⟨(vk2),.obj [.ref 1 (vs2) 3 0 0]⟩,⟨(vs2),.obj [.ref 4 v0 6 0 0,.ref 2 (va2) 3 0 0,.ref 3 (vb2) 3 0 0]⟩,⟨(va2),.obj [.ref 4 v0 6 0 0,.val (.int .i64 ((0:Nat):Int)),.val (.int .i64 (1:Int))]⟩,⟨(vb2),.obj [.ref 4 v0 6 0 0,.val (.int .i64 (1:Int)),.val (.int .i64 (1:Int))]⟩,⟨v0,.obj [.own 5 v1 1 0 s2.l.length,.val (.int .i64 (s2.k:Int)),.val (.int .i64 s2.ar),.val (.int .i64 s2.pt),.val (.bool s2.dd),.val (.int .i64 s2.wr)]⟩,⟨v1,.bytes s2.l⟩] []):=
 spec_frz h (by simp[geM]) (AF.tup (AFL.cons (AF.agg (toldA_AFL (by show AF [] _ (.bs 0 u.d);rw[hd];exact AF.nil) u n is e)) (AFL.cons AF.same AFL.nil))) ⟨rfl,BF.same,rfl,BF.same,rfl,BF.same,rfl,BF.same,rfl,BF.same,rfl,BF.same,trivial⟩
theorem meant_nil21{R R2:List RK}{y:Nat}{o:OpV}{u:VarV}{n:Int}{is:Bool}{e:Int}{wb wm:Nat}(hd:u.d=[])(h:Spec Tryz.prog 53 [.ref 0 wb 1 0 0,.agg (opA o)] [⟨wb,.obj [.ref 1 wm 3 0 0]⟩,⟨wm,.obj [.sl 0 1 (fun k:List UInt8=>[AV.bs 0 k]) [] (ksR R),.sl 0 1 (fun k:List UInt8=>[AV.bs 0 k]) [] (vsR R),.val (.int .i64 (roomY y))]⟩] (pms (.agg (toldA (.val (.slice none 0 0)) u n is e)) [⟨wb,.obj [.ref 1 wm 3 0 0]⟩,⟨wm,.obj [.sl 0 1 (fun k:List UInt8=>[AV.bs 0 k]) [] (ksR R2),.sl 0 1 (fun k:List UInt8=>[AV.bs 0 k]) [] (vsR R2),.val (.int .i64 (roomY y))]⟩] [])):Spec Tryz.prog 53 [.ref 0 wb 1 0 0,.agg (opA o)] [⟨wb,.obj [.ref 1 wm 3 0 0]⟩,⟨wm,.obj [.sl 0 1 (fun k:List UInt8=>[AV.bs 0 k]) [] (ksR R),.sl 0 1 (fun k:List UInt8=>[AV.bs 0 k]) [] (vsR R),.val (.int .i64 (roomY y))]⟩] (pms (.agg (tdA ⟨u,n,is,e⟩)) [⟨wb,.obj [.ref 1 wm 3 0 0]⟩,⟨wm,.obj [.sl 0 1 (fun k:List UInt8=>[AV.bs 0 k]) [] (ksR R2),.sl 0 1 (fun k:List UInt8=>[AV.bs 0 k]) [] (vsR R2),.val (.int .i64 (roomY y))]⟩] []):=
 spec_frz h (by simp[geM]) (AF.agg (toldA_AFL (by show AF [] _ (.bs 0 u.d);rw[hd];exact AF.nil) u n is e)) ⟨rfl,BF.same,rfl,BF.same,trivial⟩
theorem nm_le64{nm:ByteArray}(h:rightN nm=true):nm.size≤64:=by
 unfold rightN at h
 simp only[Bool.and_eq_true,decide_eq_true_eq] at h
 omega
theorem plays_step{s:FlS}{y i:Nat}{R:List RK}(h:BR s y i R)(hy:128≤y∧y≤2175)(hi:i≤900)(o:OpV)(ho:o.Ok)(h6:o.K≠6):∃(t:TdV)(s':FlS)(R':List RK),t.u.Ok∧BR s' y (i+1) R'∧(∀vk vs va vb v0 v1,Spec Tryz.prog 48 [.ref 4 v0 6 0 0,.ref 0 vk 1 0 0,.agg (opA o)] [⟨vk,.obj [.ref 1 vs 3 0 0]⟩,⟨vs,.obj [.ref 4 v0 6 0 0,.ref 2 va 3 0 0,.ref 3 vb 3 0 0]⟩,⟨va,.obj [.ref 4 v0 6 0 0,.val (.int .i64 ((0:Nat):Int)),.val (.int .i64 (1:Int))]⟩,⟨vb,.obj [.ref 4 v0 6 0 0,.val (.int .i64 (1:Int)),.val (.int .i64 (1:Int))]⟩,⟨v0,.obj [.own 5 v1 1 0 s.l.length,.val (.int .i64 (s.k:Int)),.val (.int .i64 s.ar),.val (.int .i64 s.pt),.val (.bool s.dd),.val (.int .i64 s.wr)]⟩,⟨v1,.bytes s.l⟩] (pms (.tup [.agg (tdA t),.ref 0 (vk) 1 0 0]) [⟨(vk),.obj [.ref 1 (vs) 3 0 0]⟩,⟨(vs),.obj [.ref 4 v0 6 0 0,.ref 2 (va) 3 0 0,.ref 3 (vb) 3 0 0]⟩,⟨(va),.obj [.ref 4 v0 6 0 0,.val (.int .i64 ((0:Nat):Int)),.val (.int .i64 (1:Int))]⟩,⟨(vb),.obj [.ref 4 v0 6 0 0,.val (.int .i64 (1:Int)),.val (.int .i64 (1:Int))]⟩,⟨v0,.obj [.own 5 v1 1 0 s'.l.length,.val (.int .i64 (s'.k:Int)),.val (.int .i64 s'.ar),.val (.int .i64 s'.pt),.val (.bool s'.dd),.val (.int .i64 s'.wr)]⟩,⟨v1,.bytes s'.l⟩] []))∧(∀wb wm,Spec Tryz.prog 53 [.ref 0 wb 1 0 0,.agg (opA o)] [⟨wb,.obj [.ref 1 wm 3 0 0]⟩,⟨wm,.obj [.sl 0 1 (fun k:List UInt8=>[AV.bs 0 k]) [] (ksR R),.sl 0 1 (fun k:List UInt8=>[AV.bs 0 k]) [] (vsR R),.val (.int .i64 (roomY y))]⟩] (pms (.agg (tdA t)) [⟨wb,.obj [.ref 1 wm 3 0 0]⟩,⟨wm,.obj [.sl 0 1 (fun k:List UInt8=>[AV.bs 0 k]) [] (ksR R'),.sl 0 1 (fun k:List UInt8=>[AV.bs 0 k]) [] (vsR R'),.val (.int .i64 (roomY y))]⟩] [])):=by
 obtain⟨V,hV⟩:=VR.of h.rc
 obtain⟨M,hlk,hrm⟩:=h.lk
 have hgo:=h.go
 have hW:(1000+(i:Int)*300000000000)≤1000000000000000:=by omega
 have la:=lie0 hy
 have lb:=lie1 hy
 have hRl:=h.sm.len
 have hs:=hrm.sort
 have hl:R.length≤4096:=by omega
 have hok:∀r∈R,OkK r:=fun r hr=>(h.rc r hr).okK
 have hov:=ho.v
 have hup:BR s y (i+1) R:=h.mono (Nat.le_succ i)
 have hkl:∀k∈ksR R,k.length≤140737488355328:=by
  intro k hk
  obtain⟨r,hr,rfl⟩:=List.mem_map.1 hk
  have:=(h.rc r hr).okK.1.2
  omega
 have hkn:(ksR R).length≤140737488355328:=by rw[ksR_len];omega
 have hks:srtK (M.map fun r=>r.key)=ksR R:=hrm.keys
 by_cases k0:o.K=0
 ·cases hr:rightN o.v.nm with
  | false=>
   exact⟨⟨varZ,0,false,1⟩,s,R,varZ_ok,hup,fun vk vs va vb v0 v1=>doesF_getno s o ho k0 vk vs va vb v0 v1 1 (kget_badK s 1 o.v.nm hov.nm o.v.g hr vk vs va vb v0 v1),
    fun wb wm=>meant_nil21 rfl (meant_get _ (.inl rfl) o ho k0 R (roomY y) wb wm varZ false 1 (rget21_bad o.v.nm hov.nm o.v.g hr R (roomY y) wb wm))⟩
  | true=>
   by_cases hm:∃r∈R,r.key=keyV o.v.nm o.v.g
   ·obtain⟨r,hrm1,hre⟩:=hm
    obtain⟨v,hv,rfl,e1,e2⟩:=RecB.var h.rc hov.g hrm1 hre
    refine⟨⟨v,0,true,0⟩,s,R,hv.ok,hup,fun vk vs va vb v0 v1=> ?_,fun wb wm=> ?_⟩
    ·have hG:=kget_in s 1 hlk hgo la lb v hv.ok hv.r hv.t (by have:=hv.d;omega) (hrm.perm.mem_iff.1 hrm1) vk vs va vb v0 v1
     rw[e1,e2] at hG
     exact doesF_get s o ho k0 vk vs va vb v0 v1 v (by have:=hv.d;omega) hG
    ·have hG:=rget21_z v hv R hs hl hrm1 (roomY y) wb wm
     rw[e1,e2] at hG
     exact meant_get _ (.inr ⟨_,rfl⟩) o ho k0 R (roomY y) wb wm v true 0 hG
   ·have hno:∀r∈R,r.key≠keyV o.v.nm o.v.g:=fun r hr' e=>hm ⟨r,hr',e⟩
    exact⟨⟨varZ,0,false,0⟩,s,R,varZ_ok,hup,fun vk vs va vb v0 v1=>doesF_getno s o ho k0 vk vs va vb v0 v1 0 (kget_no s 1 hlk hgo la lb o.v.nm o.v.g hov.g hr (fun r hr' e=>hno r (hrm.perm.mem_iff.2 hr') e) vk vs va vb v0 v1),
     fun wb wm=>meant_nil21 rfl (meant_get _ (.inl rfl) o ho k0 R (roomY y) wb wm varZ false 0 (rget21_no o.v.nm hov.nm o.v.g hov.g hr R hl hno (roomY y) wb wm))⟩
 by_cases k1:o.K=1
 ·obtain⟨e1,e2⟩:=h.put hy (by omega) o.v hov
  refine⟨⟨varZ,0,true,(kputP s o.v).1⟩,_,_,varZ_ok,e2,fun vk vs va vb v0 v1=>does_nil21 rfl (doesF_put s hgo hW la lb h.live o ho k1 vk vs va vb v0 v1),fun wb wm=> ?_⟩
  rw[e1]
  exact meant_nil21 rfl (meant_put o ho k1 R hs hok hl (roomY y) wb wm)
 by_cases k2:o.K=2
 ·obtain⟨e1,e2⟩:=h.drop o.v.nm o.v.g
  refine⟨⟨varZ,0,false,(kdropP s o.v.nm o.v.g).1⟩,_,_,varZ_ok,e2,fun vk vs va vb v0 v1=>does_nil21 rfl (doesF_drop s hgo hW la lb o ho k2 vk vs va vb v0 v1),fun wb wm=> ?_⟩
  rw[e1]
  exact meant_nil21 rfl (meant_drop o ho k2 R hs hl (roomY y) wb wm)
 by_cases k3:o.K=3
 ·have fin : ∀ (a : ByteArray) (b : List UInt8) (e : Int), a.size ≤ 64 → b.length = 16 →
      (∀vk vs va vb v0 v1,Spec Tryz.prog 45 [.ref 0 vk 1 0 0,.val (.string o.v.nm),.agg (bytesA 16 o.v.g)] [⟨vk,.obj [.ref 1 vs 3 0 0]⟩,⟨vs,.obj [.ref 4 v0 6 0 0,.ref 2 va 3 0 0,.ref 3 vb 3 0 0]⟩,⟨va,.obj [.ref 4 v0 6 0 0,.val (.int .i64 ((0:Nat):Int)),.val (.int .i64 (1:Int))]⟩,⟨vb,.obj [.ref 4 v0 6 0 0,.val (.int .i64 (1:Int)),.val (.int .i64 (1:Int))]⟩,⟨v0,.obj [.own 5 v1 1 0 s.l.length,.val (.int .i64 (s.k:Int)),.val (.int .i64 s.ar),.val (.int .i64 s.pt),.val (.bool s.dd),.val (.int .i64 s.wr)]⟩,⟨v1,.bytes s.l⟩] (pms (.tup [.val (.string a),.agg (bytesA 16 b),.val (.int .i64 e)]) [⟨vk,.obj [.ref 1 vs 3 0 0]⟩,⟨vs,.obj [.ref 4 v0 6 0 0,.ref 2 va 3 0 0,.ref 3 vb 3 0 0]⟩,⟨va,.obj [.ref 4 v0 6 0 0,.val (.int .i64 ((0:Nat):Int)),.val (.int .i64 (1:Int))]⟩,⟨vb,.obj [.ref 4 v0 6 0 0,.val (.int .i64 (1:Int)),.val (.int .i64 (1:Int))]⟩,⟨v0,.obj [.own 5 v1 1 0 s.l.length,.val (.int .i64 (s.k:Int)),.val (.int .i64 s.ar),.val (.int .i64 s.pt),.val (.bool s.dd),.val (.int .i64 s.wr)]⟩,⟨v1,.bytes s.l⟩] []))→
      (∀wb wm,Spec Tryz.prog 103 [.ref 0 wb 1 0 0,.val (.string o.v.nm),.agg (bytesA 16 o.v.g)] [⟨wb,.obj [.ref 1 wm 3 0 0]⟩,⟨wm,.obj [.sl 0 1 (fun k:List UInt8=>[AV.bs 0 k]) [] (ksR R),.sl 0 1 (fun k:List UInt8=>[AV.bs 0 k]) [] (vsR R),.val (.int .i64 (roomY y))]⟩] (pms (.tup [.val (.string a),.agg (bytesA 16 b),.val (.int .i64 e)]) [⟨wb,.obj [.ref 1 wm 3 0 0]⟩,⟨wm,.obj [.sl 0 1 (fun k:List UInt8=>[AV.bs 0 k]) [] (ksR R),.sl 0 1 (fun k:List UInt8=>[AV.bs 0 k]) [] (vsR R),.val (.int .i64 (roomY y))]⟩] []))→∃(t:TdV)(s':FlS)(R':List RK),t.u.Ok∧BR s' y (i+1) R'∧(∀vk vs va vb v0 v1,Spec Tryz.prog 48 [.ref 4 v0 6 0 0,.ref 0 vk 1 0 0,.agg (opA o)] [⟨vk,.obj [.ref 1 vs 3 0 0]⟩,⟨vs,.obj [.ref 4 v0 6 0 0,.ref 2 va 3 0 0,.ref 3 vb 3 0 0]⟩,⟨va,.obj [.ref 4 v0 6 0 0,.val (.int .i64 ((0:Nat):Int)),.val (.int .i64 (1:Int))]⟩,⟨vb,.obj [.ref 4 v0 6 0 0,.val (.int .i64 (1:Int)),.val (.int .i64 (1:Int))]⟩,⟨v0,.obj [.own 5 v1 1 0 s.l.length,.val (.int .i64 (s.k:Int)),.val (.int .i64 s.ar),.val (.int .i64 s.pt),.val (.bool s.dd),.val (.int .i64 s.wr)]⟩,⟨v1,.bytes s.l⟩] (pms (.tup [.agg (tdA t),.ref 0 (vk) 1 0 0]) [⟨(vk),.obj [.ref 1 (vs) 3 0 0]⟩,⟨(vs),.obj [.ref 4 v0 6 0 0,.ref 2 (va) 3 0 0,.ref 3 (vb) 3 0 0]⟩,⟨(va),.obj [.ref 4 v0 6 0 0,.val (.int .i64 ((0:Nat):Int)),.val (.int .i64 (1:Int))]⟩,⟨(vb),.obj [.ref 4 v0 6 0 0,.val (.int .i64 (1:Int)),.val (.int .i64 (1:Int))]⟩,⟨v0,.obj [.own 5 v1 1 0 s'.l.length,.val (.int .i64 (s'.k:Int)),.val (.int .i64 s'.ar),.val (.int .i64 s'.pt),.val (.bool s'.dd),.val (.int .i64 s'.wr)]⟩,⟨v1,.bytes s'.l⟩] []))∧(∀wb wm,Spec Tryz.prog 53 [.ref 0 wb 1 0 0,.agg (opA o)] [⟨wb,.obj [.ref 1 wm 3 0 0]⟩,⟨wm,.obj [.sl 0 1 (fun k:List UInt8=>[AV.bs 0 k]) [] (ksR R),.sl 0 1 (fun k:List UInt8=>[AV.bs 0 k]) [] (vsR R),.val (.int .i64 (roomY y))]⟩] (pms (.agg (tdA t)) [⟨wb,.obj [.ref 1 wm 3 0 0]⟩,⟨wm,.obj [.sl 0 1 (fun k:List UInt8=>[AV.bs 0 k]) [] (ksR R'),.sl 0 1 (fun k:List UInt8=>[AV.bs 0 k]) [] (vsR R'),.val (.int .i64 (roomY y))]⟩] [])):=fun a b e ha hb h1 h2=>
    ⟨⟨⟨a,b,0,⟨0,0,0,0,0,0⟩,List.replicate 32 0,[]⟩,0,false,e⟩,s,R,⟨by show a.size≤_;omega,hb,⟨Int.le_refl 0,by show(0:Int)≤4294967295;decide⟩,by show Tm.ok ⟨0,0,0,0,0,0⟩;unfold Tm.ok;decide,rfl,by show(0:Nat)≤140737488355328;decide⟩,hup,
     fun vk vs va vb v0 v1=>does_nil21 rfl (doesF_next s o ho k3 vk vs va vb v0 v1 a b e (h1 vk vs va vb v0 v1)),
     fun wb wm=>meant_nil21 rfl (meant_next o ho k3 R (roomY y) wb wm a b e (h2 wb wm))⟩
  have fin2 : ∀ beh : List UInt8, (∀ vk vs va vb v0 v1, Spec Tryz.prog 45 [.ref 0 vk 1 0 0, .val (.string o.v.nm), .agg (bytesA 16 o.v.g)] [⟨vk, .obj [.ref 1 vs 3 0 0]⟩, ⟨vs, .obj [.ref 4 v0 6 0 0, .ref 2 va 3 0 0, .ref 3 vb 3 0 0]⟩, ⟨va, .obj [.ref 4 v0 6 0 0, .val (.int .i64 ((0 : Nat) : Int)), .val (.int .i64 (1 : Int))]⟩, ⟨vb, .obj [.ref 4 v0 6 0 0, .val (.int .i64 (1 : Int)), .val (.int .i64 (1 : Int))]⟩, ⟨v0, .obj [.own 5 v1 1 0 s.l.length, .val (.int .i64 (s.k : Int)), .val (.int .i64 s.ar), .val (.int .i64 s.pt), .val (.bool s.dd), .val (.int .i64 s.wr)]⟩, ⟨v1, .bytes s.l⟩] (pms (nextA (ksR R) beh) [⟨vk, .obj [.ref 1 vs 3 0 0]⟩, ⟨vs, .obj [.ref 4 v0 6 0 0, .ref 2 va 3 0 0, .ref 3 vb 3 0 0]⟩, ⟨va, .obj [.ref 4 v0 6 0 0, .val (.int .i64 ((0 : Nat) : Int)), .val (.int .i64 (1 : Int))]⟩, ⟨vb, .obj [.ref 4 v0 6 0 0, .val (.int .i64 (1 : Int)), .val (.int .i64 (1 : Int))]⟩, ⟨v0, .obj [.own 5 v1 1 0 s.l.length, .val (.int .i64 (s.k : Int)), .val (.int .i64 s.ar), .val (.int .i64 s.pt), .val (.bool s.dd), .val (.int .i64 s.wr)]⟩, ⟨v1, .bytes s.l⟩] [])) →
      (∀wb wm,Spec Tryz.prog 103 [.ref 0 wb 1 0 0,.val (.string o.v.nm),.agg (bytesA 16 o.v.g)] [⟨wb,.obj [.ref 1 wm 3 0 0]⟩,⟨wm,.obj [.sl 0 1 (fun k:List UInt8=>[AV.bs 0 k]) [] (ksR R),.sl 0 1 (fun k:List UInt8=>[AV.bs 0 k]) [] (vsR R),.val (.int .i64 (roomY y))]⟩] (pms (nextA (ksR R) beh) [⟨wb,.obj [.ref 1 wm 3 0 0]⟩,⟨wm,.obj [.sl 0 1 (fun k:List UInt8=>[AV.bs 0 k]) [] (ksR R),.sl 0 1 (fun k:List UInt8=>[AV.bs 0 k]) [] (vsR R),.val (.int .i64 (roomY y))]⟩] []))→∃(t:TdV)(s':FlS)(R':List RK),t.u.Ok∧BR s' y (i+1) R'∧(∀vk vs va vb v0 v1,Spec Tryz.prog 48 [.ref 4 v0 6 0 0,.ref 0 vk 1 0 0,.agg (opA o)] [⟨vk,.obj [.ref 1 vs 3 0 0]⟩,⟨vs,.obj [.ref 4 v0 6 0 0,.ref 2 va 3 0 0,.ref 3 vb 3 0 0]⟩,⟨va,.obj [.ref 4 v0 6 0 0,.val (.int .i64 ((0:Nat):Int)),.val (.int .i64 (1:Int))]⟩,⟨vb,.obj [.ref 4 v0 6 0 0,.val (.int .i64 (1:Int)),.val (.int .i64 (1:Int))]⟩,⟨v0,.obj [.own 5 v1 1 0 s.l.length,.val (.int .i64 (s.k:Int)),.val (.int .i64 s.ar),.val (.int .i64 s.pt),.val (.bool s.dd),.val (.int .i64 s.wr)]⟩,⟨v1,.bytes s.l⟩] (pms (.tup [.agg (tdA t),.ref 0 (vk) 1 0 0]) [⟨(vk),.obj [.ref 1 (vs) 3 0 0]⟩,⟨(vs),.obj [.ref 4 v0 6 0 0,.ref 2 (va) 3 0 0,.ref 3 (vb) 3 0 0]⟩,⟨(va),.obj [.ref 4 v0 6 0 0,.val (.int .i64 ((0:Nat):Int)),.val (.int .i64 (1:Int))]⟩,⟨(vb),.obj [.ref 4 v0 6 0 0,.val (.int .i64 (1:Int)),.val (.int .i64 (1:Int))]⟩,⟨v0,.obj [.own 5 v1 1 0 s'.l.length,.val (.int .i64 (s'.k:Int)),.val (.int .i64 s'.ar),.val (.int .i64 s'.pt),.val (.bool s'.dd),.val (.int .i64 s'.wr)]⟩,⟨v1,.bytes s'.l⟩] []))∧(∀wb wm,Spec Tryz.prog 53 [.ref 0 wb 1 0 0,.agg (opA o)] [⟨wb,.obj [.ref 1 wm 3 0 0]⟩,⟨wm,.obj [.sl 0 1 (fun k:List UInt8=>[AV.bs 0 k]) [] (ksR R),.sl 0 1 (fun k:List UInt8=>[AV.bs 0 k]) [] (vsR R),.val (.int .i64 (roomY y))]⟩] (pms (.agg (tdA t)) [⟨wb,.obj [.ref 1 wm 3 0 0]⟩,⟨wm,.obj [.sl 0 1 (fun k:List UInt8=>[AV.bs 0 k]) [] (ksR R'),.sl 0 1 (fun k:List UInt8=>[AV.bs 0 k]) [] (vsR R'),.val (.int .i64 (roomY y))]⟩] [])):=fun beh h1 h2=>by
   rw[hV.nextA] at h1 h2
   rcases nextA_first beh hV.ok with⟨j,j1,j2,_,_⟩ | ⟨j1,_⟩
   ·have hvm:V.getD j varZ∈V:=by rw[List.getD_eq_getElem?_getD,List.getElem?_eq_getElem j1];exact List.getElem_mem j1
    have hv:=hV.ok _ hvm
    rw[j2] at h1 h2
    exact fin _ _ _ (nm_le64 hv.r) hv.ok.g h1 h2
   ·rw[j1] at h1 h2
    exact fin ByteArray.empty (List.replicate 16 0) 3 (by decide) (by decide) h1 h2
  cases hr:rightN o.v.nm with
  | true=>
   exact fin2 (keyV o.v.nm o.v.g) (fun vk vs va vb v0 v1=>knext_vc s 1 hlk hgo la lb (ksR R) hks hkl hkn o.v.nm hr o.v.g hov.g vk vs va vb v0 v1) (fun wb wm=>rnext21_vc R hkl hl (roomY y) o.v.nm hr o.v.g hov.g wb wm)
  | false=>
   by_cases hne:o.v.nm.data.toList=[]
   ·have hem:o.v.nm=ByteArray.empty:=by rw[←strOf_toList o.v.nm,hne];rfl
    refine fin2 [] (fun vk vs va vb v0 v1=> ?_) (fun wb wm=> ?_)
    ·have hN:=knext_any s 1 hlk hgo la lb (ksR R) hks hkl hkn o.v.g vk vs va vb v0 v1
     rw[←hem] at hN
     exact hN
    ·have hN:=rnext21_any R hkl hl (roomY y) o.v.g wb wm
     rw[←hem] at hN
     exact hN
   ·exact fin ByteArray.empty (List.replicate 16 0) 1 (by decide) (by decide) (fun vk vs va vb v0 v1=>knext_bad s 1 o.v.nm hov.nm hr (decide_eq_false hne) o.v.g vk vs va vb v0 v1) (fun wb wm=>rnext21_bad R (roomY y) o.v.nm hov.nm hr (decide_eq_false hne) o.v.g wb wm)
 by_cases k4:o.K=4
 ·obtain⟨x,hx⟩:=MarkIs.of h.rc
  exact⟨⟨varZ,((x.toNat:Nat):Int),false,0⟩,s,R,varZ_ok,hup,fun vk vs va vb v0 v1=>does_nil21 rfl (doesF_mark s o ho k4 vk vs va vb v0 v1 _ ⟨by omega,u8n_le x⟩ (kmark_r s 1 hlk hrm hgo la lb hx vk vs va vb v0 v1)),
   fun wb wm=>meant_nil21 rfl (meant_mark o ho k4 hx hs hl (roomY y) wb wm)⟩
 by_cases k5:o.K=5
 ·obtain⟨e1,e2⟩:=h.setA hy (by omega) (key:=markK) (val:=[u8 o.x]) (.inr ⟨_,rfl⟩)
  refine⟨⟨varZ,0,false,(s.set 1 markK [u8 o.x]).1⟩,_,_,varZ_ok,e2,fun vk vs va vb v0 v1=>does_nil21 rfl (doesF_note s hgo hW la lb h.live o ho k5 vk vs va vb v0 v1),fun wb wm=> ?_⟩
  rw[e1]
  exact meant_nil21 rfl (meant_note o ho k5 R hs hok hl (roomY y) wb wm)
 ·exact⟨⟨varZ,0,false,0⟩,s,R,varZ_ok,hup,fun vk vs va vb v0 v1=>does_nil21 rfl (doesF_other s o ho (by omega) vk vs va vb v0 v1),fun wb wm=>meant_nil21 rfl (meant_other o ho (by omega) R (roomY y) wb wm)⟩
theorem plays_again {s : FlS} {y i : Nat} {R : List RK} (h : BR s y i R) (hy : 128 ≤ y ∧ y ≤ 2175) (hi : i ≤ 900) (o : OpV) (ho : o.Ok) (h6 : o.K = 6) :
    (∀vk vs va vb v0 v1,Spec Tryz.prog 48 [.ref 4 v0 6 0 0,.ref 0 vk 1 0 0,.agg (opA o)] [⟨vk,.obj [.ref 1 vs 3 0 0]⟩,⟨vs,.obj [.ref 4 v0 6 0 0,.ref 2 va 3 0 0,.ref 3 vb 3 0 0]⟩,⟨va,.obj [.ref 4 v0 6 0 0,.val (.int .i64 ((0:Nat):Int)),.val (.int .i64 (1:Int))]⟩,⟨vb,.obj [.ref 4 v0 6 0 0,.val (.int .i64 (1:Int)),.val (.int .i64 (1:Int))]⟩,⟨v0,.obj [.own 5 v1 1 0 s.l.length,.val (.int .i64 (s.k:Int)),.val (.int .i64 s.ar),.val (.int .i64 s.pt),.val (.bool s.dd),.val (.int .i64 s.wr)]⟩,⟨v1,.bytes s.l⟩] (pms (.tup [.agg (tdA ⟨varZ,0,false,0⟩),.ref 0 (1+(vk+1)) 1 0 0]) [⟨(1+(vk+1)),.obj [.ref 1 (2+(vs+1)) 3 0 0]⟩,⟨(2+(vs+1)),.obj [.ref 4 v0 6 0 0,.ref 2 (3+(va+1)) 3 0 0,.ref 3 (3+(vb+1)) 3 0 0]⟩,⟨(3+(va+1)),.obj [.ref 4 v0 6 0 0,.val (.int .i64 ((0:Nat):Int)),.val (.int .i64 (1:Int))]⟩,⟨(3+(vb+1)),.obj [.ref 4 v0 6 0 0,.val (.int .i64 (1:Int)),.val (.int .i64 (1:Int))]⟩,⟨v0,.obj [.own 5 v1 1 0 s.l.length,.val (.int .i64 (s.k:Int)),.val (.int .i64 s.ar),.val (.int .i64 s.pt),.val (.bool s.dd),.val (.int .i64 s.wr)]⟩,⟨v1,.bytes s.l⟩] []))∧(∀wb wm,Spec Tryz.prog 53 [.ref 0 wb 1 0 0,.agg (opA o)] [⟨wb,.obj [.ref 1 wm 3 0 0]⟩,⟨wm,.obj [.sl 0 1 (fun k:List UInt8=>[AV.bs 0 k]) [] (ksR R),.sl 0 1 (fun k:List UInt8=>[AV.bs 0 k]) [] (vsR R),.val (.int .i64 (roomY y))]⟩] (pms (.agg (tdA ⟨varZ,0,false,0⟩)) [⟨wb,.obj [.ref 1 wm 3 0 0]⟩,⟨wm,.obj [.sl 0 1 (fun k:List UInt8=>[AV.bs 0 k]) [] (ksR R),.sl 0 1 (fun k:List UInt8=>[AV.bs 0 k]) [] (vsR R),.val (.int .i64 (roomY y))]⟩] [])):=by
 obtain⟨G,M,hNM,hrm,_⟩:=h.sm.ex
 have hgo:=h.go
 have hopn:=hNM.opn
 refine⟨fun vk vs va vb v0 v1=>does_nil21 rfl ?_,fun wb wm=>meant_nil21 rfl (meant_other o ho (by omega) R (roomY y) wb wm)⟩
 have:=doesF_again s hgo (by omega) (lie0 hy) (lie1 hy) (by omega) h.live (by rw[hopn]) o ho h6 vk vs va vb v0 v1
 rw[hopn] at this
 exact this
end Go.Proofs.YtpbpiehcchannaaGreatDoor
namespace Go.Proofs.YtpbpiehcchannaaGreatDoor
open Go.RowKit
set_option linter.unusedVariables false
set_option linter.unusedSimpArgs false
set_option maxRecDepth 100000
set_option maxHeartbeats 3000000
structure KS where
 i:Nat
 s:FlS
 R:List RK
 vk:Nat
 vs:Nat
 va:Nat
 vb:Nat
theorem weakE_obj21(v:Nat){l l':List AV}(hl:l'.length=l.length)(h:∀(E:Env)(w:World)(vs:List Value),reps E w l vs→reps E w l' vs):WeakE ⟨v,.obj l⟩ ⟨v,.obj l'⟩:=by
 refine⟨rfl,fun _=>rfl,fun q=>by simp only[Bd.count] at q⊢;exact q,fun _ E w b h0=>⟨fun _=> ?_,fun _ _ _ q=>by cases q⟩,fun _ q=>by cases q⟩
 obtain⟨cur,T,lo,hi,h1,h2,h3,h4⟩:=h0.blk rfl
 refine⟨cur,T,lo,hi,h1,h2,by simp only[Bd.count,Bd.sz,hl] at h3⊢;exact h3,fun i ys hy=> ?_⟩
 simp only[Bd.at] at hy
 split at hy
 ·rename_i hi0
  cases hy
  obtain⟨cs,k1,k2,k3⟩:=h4 i l (by simp[Bd.at,hi0])
  simp only[Bd.sz,hl] at k1 k3⊢
  exact⟨cs,k1,h E w cs k2,k3⟩
 ·cases hy
theorem weak_map21(v:Nat)(u:Value):WeakE ⟨v,.obj [.val (.slice none 0 0),.val (.slice none 0 0),.val u]⟩ ⟨v,.obj [.sl 0 1 (fun k:List UInt8=>[AV.bs 0 k]) [] (ksR []),.sl 0 1 (fun k:List UInt8=>[AV.bs 0 k]) [] (vsR []),.val u]⟩:=by
 refine weakE_obj21 v rfl fun E w vs h=> ?_
 simp only[reps] at h⊢
 obtain⟨a,r,h1,h2,b,q,h3,h4,h5⟩:=h
 have nil:∀{a:Value},rep E w (.val (.slice none 0 0)) a→rep E w (.sl 0 1 (fun k:List UInt8=>[AV.bs 0 k]) [] ([]:List (List UInt8))) a:=fun{a} h=>by
  simp only[rep] at h⊢
  exact⟨none,0,0,h,rfl,Nat.le_refl _,Nat.zero_le _,fun _=>rfl,fun i x hx=>by simp at hx⟩
 exact⟨a,r,h1,nil h2,b,q,h3,nil h4,h5⟩
theorem new_BR{y:Nat}(hy:128≤y∧y≤2175):∃s1,(FlS.new 2 y).opn 1=(0,s1)∧BR s1 y 0 []:=by
 obtain⟨s1,h1,h2⟩:=SM.new (c:=1) (k:=y) (by omega) (by omega) (by omega)
 exact⟨s1,h1,h2,by simp⟩
theorem holds_self {s : FlS} {y n : Nat} {R : List RK} (h : BR s y n R) (hy : 128 ≤ y ∧ y ≤ 2175) (hn : n ≤ 900) (room : Int) (vk vs va vb v0 v1 wb wm : Nat) :
    Spec Tryz.prog 55 [.ref 0 vk 1 0 0,.ref 6 wb 1 0 0] [⟨vk,.obj [.ref 1 vs 3 0 0]⟩,⟨vs,.obj [.ref 4 v0 6 0 0,.ref 2 va 3 0 0,.ref 3 vb 3 0 0]⟩,⟨va,.obj [.ref 4 v0 6 0 0,.val (.int .i64 ((0:Nat):Int)),.val (.int .i64 (1:Int))]⟩,⟨vb,.obj [.ref 4 v0 6 0 0,.val (.int .i64 (1:Int)),.val (.int .i64 (1:Int))]⟩,⟨v0,.obj [.own 5 v1 1 0 s.l.length,.val (.int .i64 (s.k:Int)),.val (.int .i64 s.ar),.val (.int .i64 s.pt),.val (.bool s.dd),.val (.int .i64 s.wr)]⟩,⟨v1,.bytes s.l⟩,⟨wb,.obj [.ref 7 wm 3 0 0]⟩,⟨wm,.obj [.sl 0 1 (fun k:List UInt8=>[AV.bs 0 k]) [] (ksR R),.sl 0 1 (fun k:List UInt8=>[AV.bs 0 k]) [] (vsR R),.val (.int .i64 room)]⟩] (pms (.val (.bool true)) [⟨vk,.obj [.ref 1 vs 3 0 0]⟩,⟨vs,.obj [.ref 4 v0 6 0 0,.ref 2 va 3 0 0,.ref 3 vb 3 0 0]⟩,⟨va,.obj [.ref 4 v0 6 0 0,.val (.int .i64 ((0:Nat):Int)),.val (.int .i64 (1:Int))]⟩,⟨vb,.obj [.ref 4 v0 6 0 0,.val (.int .i64 (1:Int)),.val (.int .i64 (1:Int))]⟩,⟨v0,.obj [.own 5 v1 1 0 s.l.length,.val (.int .i64 (s.k:Int)),.val (.int .i64 s.ar),.val (.int .i64 s.pt),.val (.bool s.dd),.val (.int .i64 s.wr)]⟩,⟨v1,.bytes s.l⟩,⟨wb,.obj [.ref 7 wm 3 0 0]⟩,⟨wm,.obj [.sl 0 1 (fun k:List UInt8=>[AV.bs 0 k]) [] (ksR R),.sl 0 1 (fun k:List UInt8=>[AV.bs 0 k]) [] (vsR R),.val (.int .i64 room)]⟩] []):=by
 obtain⟨V,hV⟩:=VR.of h.rc
 have hl:=h.sm.len
 exact holds21_vc h hy hn hV hV h.rc h.sm.sort (by omega) (fun _=>rfl) true ⟨fun _=>rfl,fun _=>rfl⟩ room vk vs va vb v0 v1 wb wm
theorem law_keepplays(z:Int)(hz:0≤z∧z≤65535)(l:List OpV)(ho:∀o∈l,o.Ok):Spec Tryz.prog 9 [.val (.int .u16 z),.sl 0 59 opA opV0 l] [] (pms (.val (.bool true)) [] []):=by
 have hy:=yOf_bd z
 obtain⟨s1,h1,h0⟩:=new_BR hy
 have la:=lie0 hy
 have lb:=lie1 hy
 have hB:=begun_vc z hz s1 h1
 have hRo:=kroom_vc s1 1 h0.go la 3 4 5 5 3 4
 rw[show((1:Nat):Int)*(s1.k:Int) - 16=roomY (yOf z) by rw[h0.go.k];unfold roomY;omega] at hRo
 refine spec_entry tbOk Tryz.func9 rfl Tryz.ntmps9 Tryz.results9 ?_
 refine gg (k:= ?_)
 refine cmks (vast21_vc 0 l) Tryz.call46 (hon:=⟨opA_on,trivial⟩) 0 [] [] [] ?_
 cases hvast:vastO l with
 | true=>
  refine gg (k:= ?_)
  (
 refine cmks (works21_vc) Tryz.call40 0 [] [] [] ?_
 refine ggO (k:= ?_)
 exact⟨_,rfl,rfl,trivial⟩)
 | false=>
  have hn:l.length≤60:=by
   unfold vastO at hvast
   rw[Bool.or_eq_false_iff] at hvast
   have:=of_decide_eq_false hvast.1
   omega
  refine gg (k:= ?_)
  refine cmks (hB) Tryz.call50 0 [0,0,0,0,0,0,0,0,0,0,0,0,0,0,0,0,0,0,0,0,17,12,18,13,14,16] [0,0,0,0,0,0,0,0,0,0,0,0,0,0,0,0,0,0,0,0,1,1,1,1,1,1] [20,22,21,23,24,25] ?_
  refine gg (k:= ?_)
  refine cmks (hRo) Tryz.call52 6 [12,13,14,16,17,18] [0,0,0,0,0,0] [] ?_
  refine gg (k:= ?_)
  refine cmks (rnew21_vc (roomY (yOf z))) Tryz.call51 0 [0,0,0,0,0,23,0,22] [0,0,0,0,0,1,0,1] [7,5] ?_
  refine gg (k:= ?_)
  (refine sts (k:= ?_))
  conv=>whnf
  refine loop_le (leS_row 23 ⟨2,.obj [.sl 0 1 (fun k:List UInt8=>[AV.bs 0 k]) [] (ksR []),.sl 0 1 (fun k:List UInt8=>[AV.bs 0 k]) [] (vsR []),.val (.int .i64 (roomY (yOf z)))]⟩ rfl (weak_map21 2 _)) ?_
  refine loop_at (fun q:KS=>q.i≤l.length∧BR q.s (yOf z) q.i q.R) (fun q=>l.length - q.i) 0 [4,6,8,9,10,11,25,26,27,28,29,30,31,32,33,34,35,36,37,38,39,40,41,42,43,44,45,46,47,48,49,50,51,52,53,54,55,56,57] (fun q=>[(6,.ref 12 q.vk 1 0 0),(8,.val (.int .i64 (q.i:Int)))]) (fun q=>[(12,⟨q.vk,.obj [.ref 13 q.vs 3 0 0]⟩),(13,⟨q.vs,.obj [.ref 17 3 6 0 0,.ref 14 q.va 3 0 0,.ref 16 q.vb 3 0 0]⟩),(14,⟨q.va,.obj [.ref 17 3 6 0 0,.val (.int .i64 ((0:Nat):Int)),.val (.int .i64 ((1:Nat):Int))]⟩),(16,⟨q.vb,.obj [.ref 17 3 6 0 0,.val (.int .i64 ((1:Nat):Int)),.val (.int .i64 ((1:Nat):Int))]⟩),(17,⟨3,.obj [.own 18 4 1 0 q.s.l.length,.val (.int .i64 (q.s.k:Int)),.val (.int .i64 q.s.ar),.val (.int .i64 q.s.pt),.val (.bool q.s.dd),.val (.int .i64 q.s.wr)]⟩),(18,⟨4,.bytes q.s.l⟩),(23,⟨2,.obj [.sl 0 1 (fun k:List UInt8=>[AV.bs 0 k]) [] (ksR q.R),.sl 0 1 (fun k:List UInt8=>[AV.bs 0 k]) [] (vsR q.R),.val (.int .i64 (roomY (yOf z)))]⟩)]) ⟨0,s1,[],3,4,5,5⟩ ⟨Nat.zero_le _,h0⟩ ?_ ?_ ?_
  ·exact no_implicit_lambda%ten
  ·exact no_implicit_lambda%hen
  ·rintro⟨i,s,R,vk,vs,va,vb⟩ w ⟨i1,i2⟩
   simp only at i1 i2
   refine glp (k:= ?_)
   refine gg (k:= ?_)
   refine⟨fun h=> ?_,fun h=> ?_⟩
   ·have hlt:i<l.length:=by have:=of_decide_eq_true h;omega
    have hoo:(l[i]).Ok:=ho _ (List.getElem_mem hlt)
    have hgd:l.getD i opV0=l[i]:=by rw[List.getD_eq_getElem?_getD,List.getElem?_eq_getElem hlt];rfl
    generalize l[i]=o at hoo hgd
    by_cases h6:o.K=6
    ·obtain⟨hD,hM⟩:=plays_again i2 hy (by omega) o hoo h6
     (
 have hH:=holds_self (i2.mono (Nat.le_succ i)) hy (by omega) (roomY (yOf z)) (1+(vk+1)) (2+(vs+1)) (3+(va+1)) (3+(vb+1)) 3 4 2 2
 refine gg (k:= ?_)
 simp only[Int.toNat_natCast,hgd]
 refine cmks (hD vk vs va vb 3 4) Tryz.call48 (hon:=⟨(by decide:4<6),(by decide:0<6),opA_on _,trivial⟩) (hX:=⟨toldA_on _ _ _ _ _,rfl,trivial⟩) 6 [12,13,14,16,17,18] [0,0,0,0,0,0] [] ?_
 refine gg (k:= ?_)
 simp only[Int.toNat_natCast,hgd]
 refine cmks (hM 2 2) Tryz.call53 (hon:=⟨(by decide:0<2),opA_on _,trivial⟩) (hX:=toldA_on _ _ _ _ _) 2 [22,23] [0,0] [] ?_
 refine gg (k:= ?_)
 refine cmks (sameT21_vc ⟨varZ,0,false,0⟩ varZ_ok) Tryz.call54 (hon:=⟨toldA_on _ _ _ _ _,toldA_on _ _ _ _ _,trivial⟩) 0 [] [] [] ?_
 refine ggO (k:= ?_)
 conv=>whnf
 refine gcl (hA:=fun hG=>⟨trivial,hG,hG,trivial⟩) (k:= ?_)
 refine cmks (hH) Tryz.call55 8 [12,13,14,16,17,18,22,23] [0,0,0,0,0,0,0,0] [] ?_
 refine ggO (k:= ?_)
 refine back_at ⟨i+1,s,R,1+(vk+1),2+(vs+1),3+(va+1),3+(vb+1)⟩ ⟨hlt,(i2.mono (Nat.le_succ i))⟩ (by show l.length - (i+1)<l.length - i;omega) ?_ ?_
 ·exact no_implicit_lambda%ten
 ·exact no_implicit_lambda% hen)
    ·obtain⟨t,s',R',ht,hBR,hD,hM⟩:=plays_step i2 hy (by omega) o hoo h6
     (
 have hH:=holds_self hBR hy (by omega) (roomY (yOf z)) (vk) (vs) (va) (vb) 3 4 2 2
 refine gg (k:= ?_)
 simp only[Int.toNat_natCast,hgd]
 refine cmks (hD vk vs va vb 3 4) Tryz.call48 (hon:=⟨(by decide:4<6),(by decide:0<6),opA_on _,trivial⟩) (hX:=⟨toldA_on _ _ _ _ _,rfl,trivial⟩) 6 [12,13,14,16,17,18] [0,0,0,0,0,0] [] ?_
 refine gg (k:= ?_)
 simp only[Int.toNat_natCast,hgd]
 refine cmks (hM 2 2) Tryz.call53 (hon:=⟨(by decide:0<2),opA_on _,trivial⟩) (hX:=toldA_on _ _ _ _ _) 2 [22,23] [0,0] [] ?_
 refine gg (k:= ?_)
 refine cmks (sameT21_vc t ht) Tryz.call54 (hon:=⟨toldA_on _ _ _ _ _,toldA_on _ _ _ _ _,trivial⟩) 0 [] [] [] ?_
 refine ggO (k:= ?_)
 conv=>whnf
 refine gcl (hA:=fun hG=>⟨trivial,hG,hG,trivial⟩) (k:= ?_)
 refine cmks (hH) Tryz.call55 8 [12,13,14,16,17,18,22,23] [0,0,0,0,0,0,0,0] [] ?_
 refine ggO (k:= ?_)
 refine back_at ⟨i+1,s',R',vk,vs,va,vb⟩ ⟨hlt,hBR⟩ (by show l.length - (i+1)<l.length - i;omega) ?_ ?_
 ·exact no_implicit_lambda%ten
 ·exact no_implicit_lambda%hen)
   ·refine ggO (k:= ?_)
    refine cdet (need21_vc (strOf [97,98,99]) (by decide) 5 (by decide)) Tryz.call56 [] ?_
    refine ggO (k:= ?_)
    refine cmks (rneed21_vc (strOf [97,98,99]) (by decide) 5 (by decide)) Tryz.call57 0 [] [] [] ?_
    refine ggO (k:= ?_)
    (
 refine cmks (works21_vc) Tryz.call40 0 [] [] [] ?_
 refine ggO (k:= ?_)
 exact⟨_,rfl,rfl,trivial⟩)
end Go.Proofs.YtpbpiehcchannaaGreatDoor
