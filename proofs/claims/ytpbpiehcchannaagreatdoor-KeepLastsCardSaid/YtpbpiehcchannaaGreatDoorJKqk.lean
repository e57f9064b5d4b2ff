/- A book beside the document's map, where the power goes. KeepLasts: what its walk needs besides. Walk of lintellaw21: KeepLasts. Conditions: the premises of each law. -/
import Derived.Test.YtpbpiehcchannaaGreatDoorJKqg
import Derived.Test.YtpbpiehcchannaaGreatDoorJHx
namespace Go.Proofs.YtpbpiehcchannaaGreatDoor
set_option linter.unusedVariables false
set_option linter.unusedSimpArgs false
set_option maxRecDepth 100000
set_option maxHeartbeats 9000000
open Go.RowKit
structure BN(s:U)(y i:Nat)(R:List RK):Prop where
 sn:SN s 1 y i R
 rc:∀r∈R,eC r
structure BW(s:U)(y i:Nat)(R:List RK):Prop where
 sw:SW s 1 y i R
 rc:∀r∈R,eC r
theorem BN.mono{s:U}{y i j:Nat}{R:List RK}(h:BN s y i R)(lS:i≤j):BN s y j R:=⟨h.sn.mono lS,h.rc⟩
structure iP(R:List RK)(i:Nat):Prop where
 rc:∀r∈R,eC r
 so:cP R
 len:R.length≤i
theorem BN.map{s:U}{y i:Nat}{R:List RK}(h:BN s y i R):iP R i:=⟨h.rc,h.sn.sort,h.sn.len⟩
theorem iP.mono{R:List RK}{i j:Nat}(h:iP R i)(lS:i≤j):iP R j:=⟨h.rc,h.so,Nat.le_trans h.len lS⟩
theorem iP.eP{R:List RK}{i:Nat}(h:iP R i)(room:Int){key val:List UInt8}(hr:eC ⟨key,val,true⟩):iP (eP R room key val) (i+1):=by
 refine⟨fun r hm=> ?_,?_,?_⟩
 ·rcases JU hm with q | q
  ·exact h.rc r q
  ·rw[q];exact hr
 ·unfold Go.Proofs.YtpbpiehcchannaaGreatDoor.eP
  split
  ·exact Dd (List.Pairwise.sublist List.filter_sublist h.so) fun r hr=>by
     have:=(List.mem_filter.1 hr).2
     simpa using this
  ·exact h.so
 ·have:=h.len
  unfold Go.Proofs.YtpbpiehcchannaaGreatDoor.eP
  split
  ·have:=CX R key val;omega
  ·omega
theorem iP.del{R:List RK}{i:Nat}(h:iP R i)(key:List UInt8):iP (eO R key) (i+1):=
 ⟨fun r hm=>h.rc r (List.mem_filter.1 hm).1,List.Pairwise.sublist List.filter_sublist h.so,by have:=h.len;have:=yB R key;omega⟩
def DL(x:Int×U)(y i:Nat)(R R':List RK)(e:Int):Prop:=(x.1=e∧BN x.2 y (i+1) R')∨(x.1=6∧x.2.dd=true∧(BW x.2 y (i+1) R∨BW x.2 y (i+1) R'))
theorem BN.y6 {s : U} {y i : Nat} {R : List RK} (h : BN s y i R) (hy : 128 ≤ y ∧ y ≤ 2175) (hi : i ≤ 1000) {key val : List UInt8} (hr : eC ⟨key, val, true⟩) :
    DL (s.set 1 key val) y i R (eP R (bR y) key val) (fh R (bR y) key val):=by
 have e2:2*1*y=2*y:=by omega
 have hm:=(h.map.eP (bR y) hr).rc
 rcases h.sn.set (by omega) (by omega) (by rw[e2];exact tg hy) (by rw[e2];exact tj hy) key val with⟨a,b⟩ | ⟨a,_,c,d⟩
 ·exact .inl ⟨a,b,hm⟩
 ·refine .inr ⟨a,c,?_⟩
  rcases d with d | d
  ·exact .inl ⟨d,h.rc⟩
  ·exact .inr ⟨d,hm⟩
theorem BN.put {s : U} {y i : Nat} {R : List RK} (h : BN s y i R) (hy : 128 ≤ y ∧ y ≤ 2175) (hi : i ≤ 1000) (v : aU) (hv : v.Ok) :
    DL (dq s v) y i R (gW R (bR y) v).2 (gW R (bR y) v).1∧iP (gW R (bR y) v).2 (i+1):=by
 unfold dq gW
 cases hP:fA v with
 | false=>exact⟨.inl ⟨rfl,h.mono (Nat.le_succ i)⟩,h.map.mono (Nat.le_succ i)⟩
 | true=>
  simp only[if_true]
  have hr:eC ⟨aO v.nm v.g,bh v,true⟩:= .inl ⟨v,yP hv hP,rfl⟩
  exact⟨h.y6 hy hi hr,h.map.eP (bR y) hr⟩
theorem BN.drop {s : U} {y i : Nat} {R : List RK} (h : BN s y i R) (nm : ByteArray) (g : List UInt8) :
    DL (fK s nm g) y i R (jO R nm g).2 (jO R nm g).1∧iP (jO R nm g).2 (i+1):=by
 unfold fK jO
 cases hP:bM nm with
 | false=>exact⟨.inl ⟨rfl,h.mono (Nat.le_succ i)⟩,h.map.mono (Nat.le_succ i)⟩
 | true=>
  simp only[if_true]
  have hm:=h.map.del (aO nm g)
  refine⟨?_,hm⟩
  rcases h.sn.del (aO nm g) with⟨a,b⟩ | ⟨a,_,c,d⟩
  ·exact .inl ⟨a,b,hm.rc⟩
  ·refine .inr ⟨a,c,?_⟩
   rcases d with d | d
   ·exact .inl ⟨d,h.rc⟩
   ·exact .inr ⟨d,hm.rc⟩
theorem S5{s:U}{y i:Nat}{R:List RK}(h:BN s y i R)(hy:128≤y∧y≤2175)(hi:i≤900)(o:du)(ho:o.Ok)(h6:o.K≠6):∃(t tm:rv)(s':U)(R':List RK),t.u.Ok∧iP R' (i+1)∧((t=tm∧BN s' y (i+1) R')∨(t.e=6∧s'.dd=true∧(BW s' y (i+1) R∨BW s' y (i+1) R')))∧(∀vk vs va vb v0 v1,Spec Tryz.prog 48 [.ref 4 v0 6 0 0,.ref 0 vk 1 0 0,.agg (bY o)] [⟨vk,.obj [.ref 1 vs 3 0 0]⟩,⟨vs,.obj [.ref 4 v0 6 0 0,.ref 2 va 3 0 0,.ref 3 vb 3 0 0]⟩,⟨va,.obj [.ref 4 v0 6 0 0,.val (.int .i64 ((0:Nat):Int)),.val (.int .i64 (1:Int))]⟩,⟨vb,.obj [.ref 4 v0 6 0 0,.val (.int .i64 (1:Int)),.val (.int .i64 (1:Int))]⟩,⟨v0,.obj [.own 5 v1 1 0 s.l.length,.val (.int .i64 (s.k:Int)),.val (.int .i64 s.ar),.val (.int .i64 s.pt),.val (.bool s.dd),.val (.int .i64 s.wr)]⟩,⟨v1,.bytes s.l⟩] (ak (.aD [.agg (kl t),.ref 0 (vk) 1 0 0]) [⟨(vk),.obj [.ref 1 (vs) 3 0 0]⟩,⟨(vs),.obj [.ref 4 v0 6 0 0,.ref 2 (va) 3 0 0,.ref 3 (vb) 3 0 0]⟩,⟨(va),.obj [.ref 4 v0 6 0 0,.val (.int .i64 ((0:Nat):Int)),.val (.int .i64 (1:Int))]⟩,⟨(vb),.obj [.ref 4 v0 6 0 0,.val (.int .i64 (1:Int)),.val (.int .i64 (1:Int))]⟩,⟨v0,.obj [.own 5 v1 1 0 s'.l.length,.val (.int .i64 (s'.k:Int)),.val (.int .i64 s'.ar),.val (.int .i64 s'.pt),.val (.bool s'.dd),.val (.int .i64 s'.wr)]⟩,⟨v1,.bytes s'.l⟩] []))∧(∀wb wm,Spec Tryz.prog 53 [.ref 0 wb 1 0 0,.agg (bY o)] [⟨wb,.obj [.ref 1 wm 3 0 0]⟩,⟨wm,.obj [.sl 0 1 (fun k:List UInt8=>[AV.bs 0 k]) [] (av R),.sl 0 1 (fun k:List UInt8=>[AV.bs 0 k]) [] (aL R),.val (.int .i64 (bR y))]⟩] (ak (.agg (kl tm)) [⟨wb,.obj [.ref 1 wm 3 0 0]⟩,⟨wm,.obj [.sl 0 1 (fun k:List UInt8=>[AV.bs 0 k]) [] (av R'),.sl 0 1 (fun k:List UInt8=>[AV.bs 0 k]) [] (aL R'),.val (.int .i64 (bR y))]⟩] [])):=by
 obtain⟨V,hV⟩:=VR.of h.rc
 obtain⟨M,ew,iO⟩:=h.sn.look
 have fc:aw (1000+i*300000000000) (2*y) y s:=h.sn.go
 have hW:(1000+(i:Int)*300000000000)≤1000000000000000:=by omega
 have la:=tg hy
 have lb:=tj hy
 have qR:=h.sn.len
 have hs:=iO.sort
 have hl:R.length≤4096:=by omega
 have cq:∀r∈R,fJ r:=fun r hr=>(h.rc r hr).yV
 have mK:=ho.v
 have S6:BN s y (i+1) R:=h.mono (Nat.le_succ i)
 have S7:iP R (i+1):=h.map.mono (Nat.le_succ i)
 have bH:∀k∈av R,k.length≤140737488355328:=by
  intro k hk
  obtain⟨r,hr,rfl⟩:=List.mem_map.1 hk
  have:=(h.rc r hr).yV.1.2
  omega
 have dH:(av R).length≤140737488355328:=by rw[gB];omega
 have kF:jK (M.map fun r=>r.key)=av R:=iO.keys
 have still:∀t:rv,t.u.Ok→(∀vk vs va vb v0 v1,Spec Tryz.prog 48 [.ref 4 v0 6 0 0,.ref 0 vk 1 0 0,.agg (bY o)] [⟨vk,.obj [.ref 1 vs 3 0 0]⟩,⟨vs,.obj [.ref 4 v0 6 0 0,.ref 2 va 3 0 0,.ref 3 vb 3 0 0]⟩,⟨va,.obj [.ref 4 v0 6 0 0,.val (.int .i64 ((0:Nat):Int)),.val (.int .i64 (1:Int))]⟩,⟨vb,.obj [.ref 4 v0 6 0 0,.val (.int .i64 (1:Int)),.val (.int .i64 (1:Int))]⟩,⟨v0,.obj [.own 5 v1 1 0 s.l.length,.val (.int .i64 (s.k:Int)),.val (.int .i64 s.ar),.val (.int .i64 s.pt),.val (.bool s.dd),.val (.int .i64 s.wr)]⟩,⟨v1,.bytes s.l⟩] (ak (.aD [.agg (kl t),.ref 0 (vk) 1 0 0]) [⟨(vk),.obj [.ref 1 (vs) 3 0 0]⟩,⟨(vs),.obj [.ref 4 v0 6 0 0,.ref 2 (va) 3 0 0,.ref 3 (vb) 3 0 0]⟩,⟨(va),.obj [.ref 4 v0 6 0 0,.val (.int .i64 ((0:Nat):Int)),.val (.int .i64 (1:Int))]⟩,⟨(vb),.obj [.ref 4 v0 6 0 0,.val (.int .i64 (1:Int)),.val (.int .i64 (1:Int))]⟩,⟨v0,.obj [.own 5 v1 1 0 s.l.length,.val (.int .i64 (s.k:Int)),.val (.int .i64 s.ar),.val (.int .i64 s.pt),.val (.bool s.dd),.val (.int .i64 s.wr)]⟩,⟨v1,.bytes s.l⟩] []))→(∀wb wm,Spec Tryz.prog 53 [.ref 0 wb 1 0 0,.agg (bY o)] [⟨wb,.obj [.ref 1 wm 3 0 0]⟩,⟨wm,.obj [.sl 0 1 (fun k:List UInt8=>[AV.bs 0 k]) [] (av R),.sl 0 1 (fun k:List UInt8=>[AV.bs 0 k]) [] (aL R),.val (.int .i64 (bR y))]⟩] (ak (.agg (kl t)) [⟨wb,.obj [.ref 1 wm 3 0 0]⟩,⟨wm,.obj [.sl 0 1 (fun k:List UInt8=>[AV.bs 0 k]) [] (av R),.sl 0 1 (fun k:List UInt8=>[AV.bs 0 k]) [] (aL R),.val (.int .i64 (bR y))]⟩] []))→∃(t tm:rv)(s':U)(R':List RK),t.u.Ok∧iP R' (i+1)∧((t=tm∧BN s' y (i+1) R')∨(t.e=6∧s'.dd=true∧(BW s' y (i+1) R∨BW s' y (i+1) R')))∧(∀vk vs va vb v0 v1,Spec Tryz.prog 48 [.ref 4 v0 6 0 0,.ref 0 vk 1 0 0,.agg (bY o)] [⟨vk,.obj [.ref 1 vs 3 0 0]⟩,⟨vs,.obj [.ref 4 v0 6 0 0,.ref 2 va 3 0 0,.ref 3 vb 3 0 0]⟩,⟨va,.obj [.ref 4 v0 6 0 0,.val (.int .i64 ((0:Nat):Int)),.val (.int .i64 (1:Int))]⟩,⟨vb,.obj [.ref 4 v0 6 0 0,.val (.int .i64 (1:Int)),.val (.int .i64 (1:Int))]⟩,⟨v0,.obj [.own 5 v1 1 0 s.l.length,.val (.int .i64 (s.k:Int)),.val (.int .i64 s.ar),.val (.int .i64 s.pt),.val (.bool s.dd),.val (.int .i64 s.wr)]⟩,⟨v1,.bytes s.l⟩] (ak (.aD [.agg (kl t),.ref 0 (vk) 1 0 0]) [⟨(vk),.obj [.ref 1 (vs) 3 0 0]⟩,⟨(vs),.obj [.ref 4 v0 6 0 0,.ref 2 (va) 3 0 0,.ref 3 (vb) 3 0 0]⟩,⟨(va),.obj [.ref 4 v0 6 0 0,.val (.int .i64 ((0:Nat):Int)),.val (.int .i64 (1:Int))]⟩,⟨(vb),.obj [.ref 4 v0 6 0 0,.val (.int .i64 (1:Int)),.val (.int .i64 (1:Int))]⟩,⟨v0,.obj [.own 5 v1 1 0 s'.l.length,.val (.int .i64 (s'.k:Int)),.val (.int .i64 s'.ar),.val (.int .i64 s'.pt),.val (.bool s'.dd),.val (.int .i64 s'.wr)]⟩,⟨v1,.bytes s'.l⟩] []))∧(∀wb wm,Spec Tryz.prog 53 [.ref 0 wb 1 0 0,.agg (bY o)] [⟨wb,.obj [.ref 1 wm 3 0 0]⟩,⟨wm,.obj [.sl 0 1 (fun k:List UInt8=>[AV.bs 0 k]) [] (av R),.sl 0 1 (fun k:List UInt8=>[AV.bs 0 k]) [] (aL R),.val (.int .i64 (bR y))]⟩] (ak (.agg (kl tm)) [⟨wb,.obj [.ref 1 wm 3 0 0]⟩,⟨wm,.obj [.sl 0 1 (fun k:List UInt8=>[AV.bs 0 k]) [] (av R'),.sl 0 1 (fun k:List UInt8=>[AV.bs 0 k]) [] (aL R'),.val (.int .i64 (bR y))]⟩] [])):=fun t h1 h2 h3=>⟨t,t,s,R,h1,S7,.inl ⟨rfl,S6⟩,h2,h3⟩
 by_cases k0:o.K=0
 ·cases hr:bM o.v.nm with
  | false=>
   exact still ⟨aK,0,false,1⟩ pP (fun vk vs va vb v0 v1=>JS s o ho k0 vk vs va vb v0 v1 1 (SR s 1 o.v.nm mK.nm o.v.g hr vk vs va vb v0 v1))
    fun wb wm=>oB rfl (DG _ (.inl rfl) o ho k0 R (bR y) wb wm aK false 1 (RP o.v.nm mK.nm o.v.g hr R (bR y) wb wm))
  | true=>
   by_cases hm:∃r∈R,r.key=aO o.v.nm o.v.g
   ·obtain⟨r,DM,nr⟩:=hm
    obtain⟨v,hv,rfl,e1,e2⟩:=eC.var h.rc mK.g DM nr
    refine still ⟨v,0,true,0⟩ hv.ok (fun vk vs va vb v0 v1=> ?_) fun wb wm=> ?_
    ·have hG:=Dv s 1 ew fc la lb v hv.ok hv.r hv.t (by have:=hv.d;omega) (iO.perm.mem_iff.1 DM) vk vs va vb v0 v1
     rw[e1,e2] at hG
     exact SL s o ho k0 vk vs va vb v0 v1 v (by have:=hv.d;omega) hG
    ·have hG:=JF v hv R hs hl DM (bR y) wb wm
     rw[e1,e2] at hG
     exact DG _ (.inr ⟨_,rfl⟩) o ho k0 R (bR y) wb wm v true 0 hG
   ·have oz:∀r∈R,r.key≠aO o.v.nm o.v.g:=fun r bf e=>hm ⟨r,bf,e⟩
    exact still ⟨aK,0,false,0⟩ pP (fun vk vs va vb v0 v1=>JS s o ho k0 vk vs va vb v0 v1 0 (QN s 1 ew fc la lb o.v.nm o.v.g mK.g hr (fun r bf e=>oz r (iO.perm.mem_iff.2 bf) e) vk vs va vb v0 v1))
     fun wb wm=>oB rfl (DG _ (.inl rfl) o ho k0 R (bR y) wb wm aK false 0 (RQ o.v.nm mK.nm o.v.g mK.g hr R hl oz (bR y) wb wm))
 by_cases k1:o.K=1
 ·obtain⟨hO,hM⟩:=h.put hy (by omega) o.v mK
  refine⟨⟨aK,0,true,(dq s o.v).1⟩,⟨aK,0,true,(gW R (bR y) o.v).1⟩,_,_,pP,hM,?_,fun vk vs va vb v0 v1=>ry rfl (SF s fc hW la lb h.sn.dd o ho k1 vk vs va vb v0 v1),fun wb wm=>oB rfl (Sb o ho k1 R hs cq hl (bR y) wb wm)⟩
  rcases hO with⟨a,b⟩ | ⟨a,b⟩
  ·exact .inl ⟨by rw[a],b⟩
  ·exact .inr ⟨a,b⟩
 by_cases k2:o.K=2
 ·obtain⟨hO,hM⟩:=h.drop o.v.nm o.v.g
  refine⟨⟨aK,0,false,(fK s o.v.nm o.v.g).1⟩,⟨aK,0,false,(jO R o.v.nm o.v.g).1⟩,_,_,pP,hM,?_,fun vk vs va vb v0 v1=>ry rfl (SG s fc hW la lb o ho k2 vk vs va vb v0 v1),fun wb wm=>oB rfl (Sc o ho k2 R hs hl (bR y) wb wm)⟩
  rcases hO with⟨a,b⟩ | ⟨a,b⟩
  ·exact .inl ⟨by rw[a],b⟩
  ·exact .inr ⟨a,b⟩
 by_cases k3:o.K=3
 ·have fin : ∀ (a : ByteArray) (b : List UInt8) (e : Int), a.size ≤ 64 → b.length = 16 →
      (∀vk vs va vb v0 v1,Spec Tryz.prog 45 [.ref 0 vk 1 0 0,.val (.string o.v.nm),.agg (bC 16 o.v.g)] [⟨vk,.obj [.ref 1 vs 3 0 0]⟩,⟨vs,.obj [.ref 4 v0 6 0 0,.ref 2 va 3 0 0,.ref 3 vb 3 0 0]⟩,⟨va,.obj [.ref 4 v0 6 0 0,.val (.int .i64 ((0:Nat):Int)),.val (.int .i64 (1:Int))]⟩,⟨vb,.obj [.ref 4 v0 6 0 0,.val (.int .i64 (1:Int)),.val (.int .i64 (1:Int))]⟩,⟨v0,.obj [.own 5 v1 1 0 s.l.length,.val (.int .i64 (s.k:Int)),.val (.int .i64 s.ar),.val (.int .i64 s.pt),.val (.bool s.dd),.val (.int .i64 s.wr)]⟩,⟨v1,.bytes s.l⟩] (ak (.aD [.val (.string a),.agg (bC 16 b),.val (.int .i64 e)]) [⟨vk,.obj [.ref 1 vs 3 0 0]⟩,⟨vs,.obj [.ref 4 v0 6 0 0,.ref 2 va 3 0 0,.ref 3 vb 3 0 0]⟩,⟨va,.obj [.ref 4 v0 6 0 0,.val (.int .i64 ((0:Nat):Int)),.val (.int .i64 (1:Int))]⟩,⟨vb,.obj [.ref 4 v0 6 0 0,.val (.int .i64 (1:Int)),.val (.int .i64 (1:Int))]⟩,⟨v0,.obj [.own 5 v1 1 0 s.l.length,.val (.int .i64 (s.k:Int)),.val (.int .i64 s.ar),.val (.int .i64 s.pt),.val (.bool s.dd),.val (.int .i64 s.wr)]⟩,⟨v1,.bytes s.l⟩] []))→
      (∀wb wm,Spec Tryz.prog 103 [.ref 0 wb 1 0 0,.val (.string o.v.nm),.agg (bC 16 o.v.g)] [⟨wb,.obj [.ref 1 wm 3 0 0]⟩,⟨wm,.obj [.sl 0 1 (fun k:List UInt8=>[AV.bs 0 k]) [] (av R),.sl 0 1 (fun k:List UInt8=>[AV.bs 0 k]) [] (aL R),.val (.int .i64 (bR y))]⟩] (ak (.aD [.val (.string a),.agg (bC 16 b),.val (.int .i64 e)]) [⟨wb,.obj [.ref 1 wm 3 0 0]⟩,⟨wm,.obj [.sl 0 1 (fun k:List UInt8=>[AV.bs 0 k]) [] (av R),.sl 0 1 (fun k:List UInt8=>[AV.bs 0 k]) [] (aL R),.val (.int .i64 (bR y))]⟩] []))→∃(t tm:rv)(s':U)(R':List RK),t.u.Ok∧iP R' (i+1)∧((t=tm∧BN s' y (i+1) R')∨(t.e=6∧s'.dd=true∧(BW s' y (i+1) R∨BW s' y (i+1) R')))∧(∀vk vs va vb v0 v1,Spec Tryz.prog 48 [.ref 4 v0 6 0 0,.ref 0 vk 1 0 0,.agg (bY o)] [⟨vk,.obj [.ref 1 vs 3 0 0]⟩,⟨vs,.obj [.ref 4 v0 6 0 0,.ref 2 va 3 0 0,.ref 3 vb 3 0 0]⟩,⟨va,.obj [.ref 4 v0 6 0 0,.val (.int .i64 ((0:Nat):Int)),.val (.int .i64 (1:Int))]⟩,⟨vb,.obj [.ref 4 v0 6 0 0,.val (.int .i64 (1:Int)),.val (.int .i64 (1:Int))]⟩,⟨v0,.obj [.own 5 v1 1 0 s.l.length,.val (.int .i64 (s.k:Int)),.val (.int .i64 s.ar),.val (.int .i64 s.pt),.val (.bool s.dd),.val (.int .i64 s.wr)]⟩,⟨v1,.bytes s.l⟩] (ak (.aD [.agg (kl t),.ref 0 (vk) 1 0 0]) [⟨(vk),.obj [.ref 1 (vs) 3 0 0]⟩,⟨(vs),.obj [.ref 4 v0 6 0 0,.ref 2 (va) 3 0 0,.ref 3 (vb) 3 0 0]⟩,⟨(va),.obj [.ref 4 v0 6 0 0,.val (.int .i64 ((0:Nat):Int)),.val (.int .i64 (1:Int))]⟩,⟨(vb),.obj [.ref 4 v0 6 0 0,.val (.int .i64 (1:Int)),.val (.int .i64 (1:Int))]⟩,⟨v0,.obj [.own 5 v1 1 0 s'.l.length,.val (.int .i64 (s'.k:Int)),.val (.int .i64 s'.ar),.val (.int .i64 s'.pt),.val (.bool s'.dd),.val (.int .i64 s'.wr)]⟩,⟨v1,.bytes s'.l⟩] []))∧(∀wb wm,Spec Tryz.prog 53 [.ref 0 wb 1 0 0,.agg (bY o)] [⟨wb,.obj [.ref 1 wm 3 0 0]⟩,⟨wm,.obj [.sl 0 1 (fun k:List UInt8=>[AV.bs 0 k]) [] (av R),.sl 0 1 (fun k:List UInt8=>[AV.bs 0 k]) [] (aL R),.val (.int .i64 (bR y))]⟩] (ak (.agg (kl tm)) [⟨wb,.obj [.ref 1 wm 3 0 0]⟩,⟨wm,.obj [.sl 0 1 (fun k:List UInt8=>[AV.bs 0 k]) [] (av R'),.sl 0 1 (fun k:List UInt8=>[AV.bs 0 k]) [] (aL R'),.val (.int .i64 (bR y))]⟩] [])):=fun a b e ha hb h1 h2=>
    still ⟨⟨a,b,0,⟨0,0,0,0,0,0⟩,List.replicate 32 0,[]⟩,0,false,e⟩ ⟨by show a.size≤_;omega,hb,⟨Int.le_refl 0,by show(0:Int)≤4294967295;decide⟩,by show Tm.ok ⟨0,0,0,0,0,0⟩;unfold Tm.ok;decide,rfl,by show(0:Nat)≤140737488355328;decide⟩
     (fun vk vs va vb v0 v1=>ry rfl (SH s o ho k3 vk vs va vb v0 v1 a b e (h1 vk vs va vb v0 v1)))
     fun wb wm=>oB rfl (Sd o ho k3 R (bR y) wb wm a b e (h2 wb wm))
  have JW : ∀ beh : List UInt8, (∀ vk vs va vb v0 v1, Spec Tryz.prog 45 [.ref 0 vk 1 0 0, .val (.string o.v.nm), .agg (bC 16 o.v.g)] [⟨vk, .obj [.ref 1 vs 3 0 0]⟩, ⟨vs, .obj [.ref 4 v0 6 0 0, .ref 2 va 3 0 0, .ref 3 vb 3 0 0]⟩, ⟨va, .obj [.ref 4 v0 6 0 0, .val (.int .i64 ((0 : Nat) : Int)), .val (.int .i64 (1 : Int))]⟩, ⟨vb, .obj [.ref 4 v0 6 0 0, .val (.int .i64 (1 : Int)), .val (.int .i64 (1 : Int))]⟩, ⟨v0, .obj [.own 5 v1 1 0 s.l.length, .val (.int .i64 (s.k : Int)), .val (.int .i64 s.ar), .val (.int .i64 s.pt), .val (.bool s.dd), .val (.int .i64 s.wr)]⟩, ⟨v1, .bytes s.l⟩] (ak (eJ (av R) beh) [⟨vk, .obj [.ref 1 vs 3 0 0]⟩, ⟨vs, .obj [.ref 4 v0 6 0 0, .ref 2 va 3 0 0, .ref 3 vb 3 0 0]⟩, ⟨va, .obj [.ref 4 v0 6 0 0, .val (.int .i64 ((0 : Nat) : Int)), .val (.int .i64 (1 : Int))]⟩, ⟨vb, .obj [.ref 4 v0 6 0 0, .val (.int .i64 (1 : Int)), .val (.int .i64 (1 : Int))]⟩, ⟨v0, .obj [.own 5 v1 1 0 s.l.length, .val (.int .i64 (s.k : Int)), .val (.int .i64 s.ar), .val (.int .i64 s.pt), .val (.bool s.dd), .val (.int .i64 s.wr)]⟩, ⟨v1, .bytes s.l⟩] [])) →
      (∀wb wm,Spec Tryz.prog 103 [.ref 0 wb 1 0 0,.val (.string o.v.nm),.agg (bC 16 o.v.g)] [⟨wb,.obj [.ref 1 wm 3 0 0]⟩,⟨wm,.obj [.sl 0 1 (fun k:List UInt8=>[AV.bs 0 k]) [] (av R),.sl 0 1 (fun k:List UInt8=>[AV.bs 0 k]) [] (aL R),.val (.int .i64 (bR y))]⟩] (ak (eJ (av R) beh) [⟨wb,.obj [.ref 1 wm 3 0 0]⟩,⟨wm,.obj [.sl 0 1 (fun k:List UInt8=>[AV.bs 0 k]) [] (av R),.sl 0 1 (fun k:List UInt8=>[AV.bs 0 k]) [] (aL R),.val (.int .i64 (bR y))]⟩] []))→∃(t tm:rv)(s':U)(R':List RK),t.u.Ok∧iP R' (i+1)∧((t=tm∧BN s' y (i+1) R')∨(t.e=6∧s'.dd=true∧(BW s' y (i+1) R∨BW s' y (i+1) R')))∧(∀vk vs va vb v0 v1,Spec Tryz.prog 48 [.ref 4 v0 6 0 0,.ref 0 vk 1 0 0,.agg (bY o)] [⟨vk,.obj [.ref 1 vs 3 0 0]⟩,⟨vs,.obj [.ref 4 v0 6 0 0,.ref 2 va 3 0 0,.ref 3 vb 3 0 0]⟩,⟨va,.obj [.ref 4 v0 6 0 0,.val (.int .i64 ((0:Nat):Int)),.val (.int .i64 (1:Int))]⟩,⟨vb,.obj [.ref 4 v0 6 0 0,.val (.int .i64 (1:Int)),.val (.int .i64 (1:Int))]⟩,⟨v0,.obj [.own 5 v1 1 0 s.l.length,.val (.int .i64 (s.k:Int)),.val (.int .i64 s.ar),.val (.int .i64 s.pt),.val (.bool s.dd),.val (.int .i64 s.wr)]⟩,⟨v1,.bytes s.l⟩] (ak (.aD [.agg (kl t),.ref 0 (vk) 1 0 0]) [⟨(vk),.obj [.ref 1 (vs) 3 0 0]⟩,⟨(vs),.obj [.ref 4 v0 6 0 0,.ref 2 (va) 3 0 0,.ref 3 (vb) 3 0 0]⟩,⟨(va),.obj [.ref 4 v0 6 0 0,.val (.int .i64 ((0:Nat):Int)),.val (.int .i64 (1:Int))]⟩,⟨(vb),.obj [.ref 4 v0 6 0 0,.val (.int .i64 (1:Int)),.val (.int .i64 (1:Int))]⟩,⟨v0,.obj [.own 5 v1 1 0 s'.l.length,.val (.int .i64 (s'.k:Int)),.val (.int .i64 s'.ar),.val (.int .i64 s'.pt),.val (.bool s'.dd),.val (.int .i64 s'.wr)]⟩,⟨v1,.bytes s'.l⟩] []))∧(∀wb wm,Spec Tryz.prog 53 [.ref 0 wb 1 0 0,.agg (bY o)] [⟨wb,.obj [.ref 1 wm 3 0 0]⟩,⟨wm,.obj [.sl 0 1 (fun k:List UInt8=>[AV.bs 0 k]) [] (av R),.sl 0 1 (fun k:List UInt8=>[AV.bs 0 k]) [] (aL R),.val (.int .i64 (bR y))]⟩] (ak (.agg (kl tm)) [⟨wb,.obj [.ref 1 wm 3 0 0]⟩,⟨wm,.obj [.sl 0 1 (fun k:List UInt8=>[AV.bs 0 k]) [] (av R'),.sl 0 1 (fun k:List UInt8=>[AV.bs 0 k]) [] (aL R'),.val (.int .i64 (bR y))]⟩] [])):=fun beh h1 h2=>by
   rw[hV.eJ] at h1 h2
   rcases JT beh hV.ok with⟨j,j1,j2,_,_⟩ | ⟨j1,_⟩
   ·have yW:V.getD j aK∈V:=by rw[List.getD_eq_getElem?_getD,List.getElem?_eq_getElem j1];exact List.getElem_mem j1
    have hv:=hV.ok _ yW
    rw[j2] at h1 h2
    exact fin _ _ _ (SB hv.r) hv.ok.g h1 h2
   ·rw[j1] at h1 h2
    exact fin ByteArray.empty (List.replicate 16 0) 3 (by decide) (by decide) h1 h2
  cases hr:bM o.v.nm with
  | true=>
   exact JW (aO o.v.nm o.v.g) (fun vk vs va vb v0 v1=>Jl s 1 ew fc la lb (av R) kF bH dH o.v.nm hr o.v.g mK.g vk vs va vb v0 v1) (fun wb wm=>R6 R bH hl (bR y) o.v.nm hr o.v.g mK.g wb wm)
  | false=>
   by_cases aG:o.v.nm.data.toList=[]
   ·have JX:o.v.nm=ByteArray.empty:=by rw[←lQ o.v.nm,aG];rfl
    refine JW [] (fun vk vs va vb v0 v1=> ?_) (fun wb wm=> ?_)
    ·have hN:=Jk s 1 ew fc la lb (av R) kF bH dH o.v.g vk vs va vb v0 v1
     rw[←JX] at hN
     exact hN
    ·have hN:=R5 R bH hl (bR y) o.v.g wb wm
     rw[←JX] at hN
     exact hN
   ·exact fin ByteArray.empty (List.replicate 16 0) 1 (by decide) (by decide) (fun vk vs va vb v0 v1=>Q7 s 1 o.v.nm mK.nm hr (decide_eq_false aG) o.v.g vk vs va vb v0 v1) (fun wb wm=>R7 R (bR y) o.v.nm mK.nm hr (decide_eq_false aG) o.v.g wb wm)
 by_cases k4:o.K=4
 ·obtain⟨x,hx⟩:=gF.of h.rc
  exact still ⟨aK,((x.toNat:Nat):Int),false,0⟩ pP (fun vk vs va vb v0 v1=>ry rfl (SI s o ho k4 vk vs va vb v0 v1 _ ⟨by omega,Du x⟩ (JO s 1 ew iO fc la lb hx vk vs va vb v0 v1)))
   fun wb wm=>oB rfl (Se o ho k4 hx hs hl (bR y) wb wm)
 by_cases k5:o.K=5
 ·have hO:=h.y6 hy (by omega) (key:=bQ) (val:=[u8 o.x]) (.inr ⟨_,rfl⟩)
  have hM:=h.map.eP (bR y) (key:=bQ) (val:=[u8 o.x]) (.inr ⟨_,rfl⟩)
  refine⟨⟨aK,0,false,(s.set 1 bQ [u8 o.x]).1⟩,⟨aK,0,false,fh R (bR y) bQ [u8 o.x]⟩,_,_,pP,hM,?_,fun vk vs va vb v0 v1=>ry rfl (SJ s fc hW la lb h.sn.dd o ho k5 vk vs va vb v0 v1),fun wb wm=>oB rfl (Sf o ho k5 R hs cq hl (bR y) wb wm)⟩
  rcases hO with⟨a,b⟩ | ⟨a,b⟩
  ·exact .inl ⟨by rw[a],b⟩
  ·exact .inr ⟨a,b⟩
 ·exact still ⟨aK,0,false,0⟩ pP (fun vk vs va vb v0 v1=>ry rfl (SK s o ho (by omega) vk vs va vb v0 v1)) fun wb wm=>oB rfl (JL o ho (by omega) R (bR y) wb wm)
structure pR where
 N:Int
 P:Int
def wu(f:pR):List AV:=[.val (.int .u16 f.N),.val (.int .u16 f.P)]
def tt:pR:=⟨0,0⟩
structure pR.Ok(f:pR):Prop where
 N:0≤f.N∧f.N≤65535
 P:0≤f.P∧f.P≤65535
theorem DN(s:U)(hd:s.dd=false)(x y:Int)(hx:0≤x∧x≤65535)(hy:0≤y∧y≤65535)(v0 v1:Nat):Spec Tryz.prog 30 [.ref 0 v0 6 0 0,.val (.int .i64 x),.val (.int .i64 y)] [⟨v0,.obj [.own 1 v1 1 0 s.l.length,.val (.int .i64 (s.k:Int)),.val (.int .i64 s.ar),.val (.int .i64 s.pt),.val (.bool s.dd),.val (.int .i64 s.wr)]⟩,⟨v1,.bytes s.l⟩] (bZ (.val (.int .i64 0)) [⟨v0,.obj [.own 1 v1 1 0 (s.fx x y).l.length,.val (.int .i64 ((s.fx x y).k:Int)),.val (.int .i64 (s.fx x y).ar),.val (.int .i64 (s.fx x y).pt),.val (.bool (s.fx x y).dd),.val (.int .i64 (s.fx x y).wr)]⟩,⟨v1,.bytes (s.fx x y).l⟩]):=by
 have h:=N5 s x y ⟨by omega,by omega⟩ ⟨by omega,by omega⟩ v0 v1
 rw[Qx hd hx.1 hy.1] at h
 exact h
theorem JY(s:U)(hd:s.dd=true)(v0 v1:Nat):Spec Tryz.prog 32 [.ref 0 v0 6 0 0] [⟨v0,.obj [.own 1 v1 1 0 s.l.length,.val (.int .i64 (s.k:Int)),.val (.int .i64 s.ar),.val (.int .i64 s.pt),.val (.bool s.dd),.val (.int .i64 s.wr)]⟩,⟨v1,.bytes s.l⟩] (bZ (.val (.int .i64 0)) [⟨v0,.obj [.own 1 v1 1 0 s.fy.l.length,.val (.int .i64 (s.fy.k:Int)),.val (.int .i64 s.fy.ar),.val (.int .i64 s.fy.pt),.val (.bool s.fy.dd),.val (.int .i64 s.fy.wr)]⟩,⟨v1,.bytes s.fy.l⟩]):=PH s _ _ (Qy hd) v0 v1
theorem wv{q vq p v' sz a b:Nat}:∀{t:List AV}{k:Nat},t[k]? =some (.ref q vq sz a b)→sT q vq p v' t (aJ t k (.ref p v' sz a b))
 | [],k,h=>by simp at h
 | x::t,0,h=>by
  obtain rfl:x= .ref q vq sz a b:=by simpa using h
  refine⟨.inr (.inr (.inl ⟨sz,a,b,rfl,rfl⟩)),?_⟩
  clear h
  induction t with
  | nil=>trivial
  | cons y t ih=>exact⟨.inr (.inl rfl),ih⟩
 | x::t,k+1,h=>⟨.inr (.inl rfl),wv (t:=t) (k:=k) (by simpa using h)⟩
theorem wx{q vq p v':Nat}:∀t:List AV,sT q vq p v' t t
 | []=>trivial
 | x::t=>⟨.inr (.inl rfl),wx t⟩
theorem S8{W:Int}{n k:Nat}(s:U)(c:Nat)(go:aw W n k s)(hW:W≤1000000000000000)(pa:aA n k 0 c)(pb:aA n k c c)(hn:n=2*c*k)(hd:s.dd=false)(h6:(s.aW c).1=6)(v0 v1:Nat):Spec Tryz.prog 58 [.ref 0 v0 6 0 0] [⟨v0,.obj [.own 1 v1 1 0 s.l.length,.val (.int .i64 (s.k:Int)),.val (.int .i64 s.ar),.val (.int .i64 s.pt),.val (.bool s.dd),.val (.int .i64 s.wr)]⟩,⟨v1,.bytes s.l⟩] (ak (.aD [.val (.pointer none),.val (.int .i64 6)]) [⟨v0,.obj [.own 1 v1 1 0 (s.aW c).2.l.length,.val (.int .i64 ((s.aW c).2.k:Int)),.val (.int .i64 (s.aW c).2.ar),.val (.int .i64 (s.aW c).2.pt),.val (.bool (s.aW c).2.dd),.val (.int .i64 (s.aW c).2.wr)]⟩,⟨v1,.bytes (s.aW c).2.l⟩] []):=by
 have cU:=uW (IG s c go hW pa pb hn hd v0 v1) fun X H q=>q.2 (by rw[h6];decide)
 rw[h6] at cU
 refine ax ai Tryz.func58 rfl Tryz.ntmps58 Tryz.results58 ?_
 refine gg ?_
 refine af (cU) Tryz.call17 2 [0,1] [0,0] [] ?_
 refine gg ?_
 exact⟨_,rfl,rfl,trivial⟩
theorem S9 {W : Int} {n k : Nat} (s : U) (go : aw W n k s) (hW : W ≤ 1000000000000000) (pa : aA n k 0 1) (pb : aA n k 1 1) (hn : n = 2 * 1 * k) (hd : s.dd = false) (h0 : (s.aW 1).1 = 6) (o : du) (ho : o.Ok) (hK : o.K = 6) (vk vs va vb v0 v1 : Nat) :
    Spec Tryz.prog 48 [.ref 4 v0 6 0 0,.ref 0 vk 1 0 0,.agg (bY o)] [⟨vk,.obj [.ref 1 vs 3 0 0]⟩,⟨vs,.obj [.ref 4 v0 6 0 0,.ref 2 va 3 0 0,.ref 3 vb 3 0 0]⟩,⟨va,.obj [.ref 4 v0 6 0 0,.val (.int .i64 ((0:Nat):Int)),.val (.int .i64 (1:Int))]⟩,⟨vb,.obj [.ref 4 v0 6 0 0,.val (.int .i64 (1:Int)),.val (.int .i64 (1:Int))]⟩,⟨v0,.obj [.own 5 v1 1 0 s.l.length,.val (.int .i64 (s.k:Int)),.val (.int .i64 s.ar),.val (.int .i64 s.pt),.val (.bool s.dd),.val (.int .i64 s.wr)]⟩,⟨v1,.bytes s.l⟩] (ak (.aD [.agg (kl ⟨aK,0,false,6⟩),.val (.pointer none)]) [⟨vk,.obj [.ref 1 vs 3 0 0]⟩,⟨vs,.obj [.ref 4 v0 6 0 0,.ref 2 va 3 0 0,.ref 3 vb 3 0 0]⟩,⟨va,.obj [.ref 4 v0 6 0 0,.val (.int .i64 ((0:Nat):Int)),.val (.int .i64 (1:Int))]⟩,⟨vb,.obj [.ref 4 v0 6 0 0,.val (.int .i64 (1:Int)),.val (.int .i64 (1:Int))]⟩,⟨v0,.obj [.own 5 v1 1 0 (s.aW 1).2.l.length,.val (.int .i64 ((s.aW 1).2.k:Int)),.val (.int .i64 (s.aW 1).2.ar),.val (.int .i64 (s.aW 1).2.pt),.val (.bool (s.aW 1).2.dd),.val (.int .i64 (s.aW 1).2.wr)]⟩,⟨v1,.bytes (s.aW 1).2.l⟩] []):=by
 have cU:=S8 s 1 go hW pa pb hn hd h0 v0 v1
 generalize s.aW 1=T at cU⊢
 have h:Spec Tryz.prog 48 [.ref 4 v0 6 0 0,.ref 0 vk 1 0 0,.agg (bY o)] [⟨vk,.obj [.ref 1 vs 3 0 0]⟩,⟨vs,.obj [.ref 4 v0 6 0 0,.ref 2 va 3 0 0,.ref 3 vb 3 0 0]⟩,⟨va,.obj [.ref 4 v0 6 0 0,.val (.int .i64 ((0:Nat):Int)),.val (.int .i64 (1:Int))]⟩,⟨vb,.obj [.ref 4 v0 6 0 0,.val (.int .i64 (1:Int)),.val (.int .i64 (1:Int))]⟩,⟨v0,.obj [.own 5 v1 1 0 s.l.length,.val (.int .i64 (s.k:Int)),.val (.int .i64 s.ar),.val (.int .i64 s.pt),.val (.bool s.dd),.val (.int .i64 s.wr)]⟩,⟨v1,.bytes s.l⟩] (ak (.aD [.agg (fC (.val (.slice none 0 0)) aK 0 false 6),.val (.pointer none)]) [⟨vk,.obj [.ref 1 vs 3 0 0]⟩,⟨vs,.obj [.ref 4 v0 6 0 0,.ref 2 va 3 0 0,.ref 3 vb 3 0 0]⟩,⟨va,.obj [.ref 4 v0 6 0 0,.val (.int .i64 ((0:Nat):Int)),.val (.int .i64 (1:Int))]⟩,⟨vb,.obj [.ref 4 v0 6 0 0,.val (.int .i64 (1:Int)),.val (.int .i64 (1:Int))]⟩,⟨v0,.obj [.own 5 v1 1 0 T.2.l.length,.val (.int .i64 (T.2.k:Int)),.val (.int .i64 T.2.ar),.val (.int .i64 T.2.pt),.val (.bool T.2.dd),.val (.int .i64 T.2.wr)]⟩,⟨v1,.bytes T.2.l⟩] []):=by
  obtain⟨K,u,x⟩:=o
  have hu:=ho.v
  simp only at hu hK
  have fk:=hu.d
  refine ax ai Tryz.func48 rfl Tryz.ntmps48 Tryz.results48 ?_
  unfold bY aV
  simp only[List.cons_append,List.nil_append]
  refine gg ?_
  refine af (lU 0 u.d fk) Tryz.call96 0 [0,0,0,30] [0,0,0,1] [3] ?_
  refine gg ?_
  subst hK
  refine gg ?_
  refine af (cU) Tryz.call58 2 [4,5] [0,0] [] ?_
  refine gg ?_
  exact⟨_,rfl,rfl,trivial⟩
 exact ix h (by simp[eM]) (AF.aD (aZ.cons (AF.agg (DI AF.nil aK 0 false 6)) (aZ.cons AF.same aZ.nil))) ⟨rfl,BF.same,rfl,BF.same,rfl,BF.same,rfl,BF.same,rfl,BF.same,rfl,BF.same,trivial⟩
theorem pS {s : U} {y n : Nat} {R : List RK} (h : BN s y n R) (hy : 128 ≤ y ∧ y ≤ 2175) (hn : n ≤ 900) {R' : List RK} (hM : iP R' 900) (b : Bool) (hb : b = true ↔ R = R') (room : Int) (vk vs va vb v0 v1 wb wm : Nat) :
    Spec Tryz.prog 55 [.ref 0 vk 1 0 0,.ref 6 wb 1 0 0] [⟨vk,.obj [.ref 1 vs 3 0 0]⟩,⟨vs,.obj [.ref 4 v0 6 0 0,.ref 2 va 3 0 0,.ref 3 vb 3 0 0]⟩,⟨va,.obj [.ref 4 v0 6 0 0,.val (.int .i64 ((0:Nat):Int)),.val (.int .i64 (1:Int))]⟩,⟨vb,.obj [.ref 4 v0 6 0 0,.val (.int .i64 (1:Int)),.val (.int .i64 (1:Int))]⟩,⟨v0,.obj [.own 5 v1 1 0 s.l.length,.val (.int .i64 (s.k:Int)),.val (.int .i64 s.ar),.val (.int .i64 s.pt),.val (.bool s.dd),.val (.int .i64 s.wr)]⟩,⟨v1,.bytes s.l⟩,⟨wb,.obj [.ref 7 wm 3 0 0]⟩,⟨wm,.obj [.sl 0 1 (fun k:List UInt8=>[AV.bs 0 k]) [] (av R'),.sl 0 1 (fun k:List UInt8=>[AV.bs 0 k]) [] (aL R'),.val (.int .i64 room)]⟩] (ak (.val (.bool b)) [⟨vk,.obj [.ref 1 vs 3 0 0]⟩,⟨vs,.obj [.ref 4 v0 6 0 0,.ref 2 va 3 0 0,.ref 3 vb 3 0 0]⟩,⟨va,.obj [.ref 4 v0 6 0 0,.val (.int .i64 ((0:Nat):Int)),.val (.int .i64 (1:Int))]⟩,⟨vb,.obj [.ref 4 v0 6 0 0,.val (.int .i64 (1:Int)),.val (.int .i64 (1:Int))]⟩,⟨v0,.obj [.own 5 v1 1 0 s.l.length,.val (.int .i64 (s.k:Int)),.val (.int .i64 s.ar),.val (.int .i64 s.pt),.val (.bool s.dd),.val (.int .i64 s.wr)]⟩,⟨v1,.bytes s.l⟩,⟨wb,.obj [.ref 7 wm 3 0 0]⟩,⟨wm,.obj [.sl 0 1 (fun k:List UInt8=>[AV.bs 0 k]) [] (av R'),.sl 0 1 (fun k:List UInt8=>[AV.bs 0 k]) [] (aL R'),.val (.int .i64 room)]⟩] []):=by
 obtain⟨M,ew,iO⟩:=h.sn.look
 obtain⟨V,hV⟩:=VR.of h.rc
 have fc:aw (1000+n*300000000000) (2*y) y s:=h.sn.go
 by_cases e:R=R'
 ·subst e
  exact JP ew iO fc h.rc h.sn.len hy hn hV hV h.rc hM.so (by have:=hM.len;omega) (fun _=>rfl) b hb room vk vs va vb v0 v1 wb wm
 ·obtain⟨V',mJ⟩:=VR.of hM.rc
  exact JP ew iO fc h.rc h.sn.len hy hn hV mJ hM.rc hM.so (by have:=hM.len;omega) (fun q=>absurd q e) b hb room vk vs va vb v0 v1 wb wm
structure LS where
 i:Nat
 s:U
 R:List RK
 vk:Nat
 vs:Nat
 va:Nat
 vb:Nat
 wb:Nat
 wm:Nat
theorem Ta(z:Int)(hz:0≤z∧z≤65535)(l:List du)(ho:∀o∈l,o.Ok)(fs:List pR)(zk:∀f∈fs,f.Ok):Spec Tryz.prog 11 [.val (.int .u16 z),.sl 0 59 bY nH l,.sl 0 2 wu tt fs] [] (ak (.val (.bool true)) [] []):=by
 have hy:=Jd z
 obtain⟨s1,h1,h0⟩:=SM.new (c:=1) (k:=dZ z) (by omega) (by omega) (by omega)
 have pL:BN s1 (dZ z) (3*0) []:=⟨h0.sn (by simp),by simp⟩
 have tT:Calm s1:=by
  obtain⟨G,M,Tb,_⟩:=h0.ex
  obtain⟨i,g,l,m,O,JZ,_⟩:=Tb
  exact⟨JZ.bi.dd,JZ.gp⟩
 have la:=tg hy
 have lb:=tj hy
 have hB:=Je z hz s1 h1
 have J0:=QL s1 1 h0.go la 3 4 5 5 3 4
 rw[show((1:Nat):Int)*(s1.k:Int) - 16=bR (dZ z) by rw[h0.go.k];unfold bR;omega] at J0
 refine ax ai Tryz.func11 rfl Tryz.ntmps11 Tryz.results11 ?_
 refine gg ?_
 refine af (QR 0 l) Tryz.call46 (hon:=⟨tf,trivial⟩) 0 [] [] [] ?_
 cases DO:wj l with
 | true=>
  refine aE ?_
  refine⟨fun _=> ?_,fun h=>absurd h (by simp)⟩
  refine aE ?_
  (
 refine af (Dy) Tryz.call40 0 [] [] [] ?_
 refine aE ?_
 exact⟨_,rfl,rfl,trivial⟩)
 | false=>
  have hn:l.length≤60:=by
   unfold wj at DO
   rw[Bool.or_eq_false_iff] at DO
   have:=of_decide_eq_false DO.1
   omega
  refine aE ?_
  by_cases N0:100<fs.length
  ·rw[decide_eq_true (by omega:(100:Int)< (fs.length:Int))]
   refine aE ?_
   (
 refine af (Dy) Tryz.call40 0 [] [] [] ?_
 refine aE ?_
 exact⟨_,rfl,rfl,trivial⟩)
  rw[decide_eq_false (by omega:¬(100:Int)< (fs.length:Int))]
  refine aE ?_
  refine af (hB) Tryz.call50 0 [0,0,0,0,0,0,0,0,0,0,0,0,0,0,0,0,0,0,0,0,20,16,21,17,18,19] [0,0,0,0,0,0,0,0,0,0,0,0,0,0,0,0,0,0,0,0,1,1,1,1,1,1] [20,22,21,23,24,25] ?_
  refine gg ?_
  refine af (J0) Tryz.call52 6 [16,17,18,19,20,21] [0,0,0,0,0,0] [] ?_
  refine gg ?_
  refine af (R1 (bR (dZ z))) Tryz.call51 0 [0,0,0,0,0,25,0,24] [0,0,0,0,0,1,0,1] [7,5] ?_
  refine gg ?_
  (refine aH ?_)
  conv=>whnf
  refine qK (Bn 25 ⟨2,.obj [.sl 0 1 (fun k:List UInt8=>[AV.bs 0 k]) [] (av []),.sl 0 1 (fun k:List UInt8=>[AV.bs 0 k]) [] (aL []),.val (.int .i64 (bR (dZ z)))]⟩ rfl (SD 2 _)) ?_
  refine cE (fun q:LS=>q.i≤l.length∧BN q.s (dZ z) (3*q.i) q.R∧Calm q.s) (fun q=>l.length - q.i) 0 [6,8,9,10,11,12,13,14,15,34,35,36,37,38,39,40,41,42,43,44,45,46,47,48,49,50,51,52,53,54,55,56,57,58,59,60,61,62,63,64,65,66,67,68,69,70,71,72,73,74,75,76,77,78,79,80,81,82,83,84,85,86,87,88,89,90,91,92,93,94,95,96,97,98,99,100,101,102,103,104,105,106,107,108,109,110,111,112,113,114,115,116,117,118,119,120,121,122] (fun q=>[(8,.ref 16 q.vk 1 0 0),(9,.ref 24 q.wb 1 0 0),(10,.val (.int .i64 (q.i:Int)))]) (fun q=>[(16,⟨q.vk,.obj [.ref 17 q.vs 3 0 0]⟩),(17,⟨q.vs,.obj [.ref 20 3 6 0 0,.ref 18 q.va 3 0 0,.ref 19 q.vb 3 0 0]⟩),(18,⟨q.va,.obj [.ref 20 3 6 0 0,.val (.int .i64 ((0:Nat):Int)),.val (.int .i64 ((1:Nat):Int))]⟩),(19,⟨q.vb,.obj [.ref 20 3 6 0 0,.val (.int .i64 ((1:Nat):Int)),.val (.int .i64 ((1:Nat):Int))]⟩),(20,⟨3,.obj [.own 21 4 1 0 q.s.l.length,.val (.int .i64 (q.s.k:Int)),.val (.int .i64 q.s.ar),.val (.int .i64 q.s.pt),.val (.bool q.s.dd),.val (.int .i64 q.s.wr)]⟩),(21,⟨4,.bytes q.s.l⟩),(24,⟨q.wb,.obj [.ref 25 q.wm 3 0 0]⟩),(25,⟨q.wm,.obj [.sl 0 1 (fun k:List UInt8=>[AV.bs 0 k]) [] (av q.R),.sl 0 1 (fun k:List UInt8=>[AV.bs 0 k]) [] (aL q.R),.val (.int .i64 (bR (dZ z)))]⟩)]) ⟨0,s1,[],3,4,5,5,2,2⟩ ⟨Nat.zero_le _,pL,tT⟩ ?_ ?_ ?_
  ·exact no_implicit_lambda%ten
  ·exact no_implicit_lambda%b6
  ·rintro⟨i,s,R,vk,vs,va,vb,wb,wm⟩ w ⟨i1,i2,i3⟩
   simp only at i1 i2 i3
   refine cF ?_
   refine gg ?_
   refine⟨fun h=> ?_,fun h=> ?_⟩
   ·have ah:i<l.length:=by have:=of_decide_eq_true h;omega
    have mF:(l[i]).Ok:=ho _ (List.getElem_mem ah)
    have gV:l.getD i nH=l[i]:=by rw[List.getD_eq_getElem?_getD,List.getElem?_eq_getElem ah];rfl
    generalize l[i]=o at mF gV
    refine gg ?_
    (refine aH ?_)
    by_cases J1:i<fs.length
    case' pos=>
     have uL:(fs[i]).Ok:=zk _ (List.getElem_mem J1)
     have J2:fs.getD i tt=fs[i]:=by rw[List.getD_eq_getElem?_getD,List.getElem?_eq_getElem J1];rfl
     generalize fs[i]=f at uL J2
     have hN:=uL.N
     have hP:=uL.P
    all_goals
     refine bL (p:=0) ai hm [0,0,2,7,15,31,31,31,223,479,991,2015,31,31,12319,28703,61471,127007,262143,524287,1048575] [⟨0,false,false,[]⟩,⟨1,false,false,[]⟩,⟨2,true,false,[40,43,44,45,46,47,48,49,50,51,52,53,54,55,56,57,58,59,60]⟩,⟨3,false,false,[]⟩,⟨4,false,false,[]⟩,⟨5,false,false,[]⟩,⟨6,false,false,[]⟩,⟨7,false,false,[]⟩,⟨8,true,false,[45,49,50,51,52,53,54,55,56,57,58,59,60]⟩,⟨9,true,false,[45,50,51,52,53,54,55,56,57,58,59,60]⟩,⟨10,true,false,[45,51,52,53,54,55,56,57,58,59,60]⟩,⟨11,true,false,[45,52,53,54,55,56,57,58,59,60]⟩,⟨12,false,false,[]⟩,⟨13,false,false,[]⟩,⟨14,true,false,[45,46,47,48,49,50,51,55,56,57,58,59,60]⟩,⟨15,true,false,[45,46,47,48,49,50,51,56,57,58,59,60]⟩,⟨16,true,false,[45,46,47,48,49,50,51,57,58,59,60]⟩,⟨17,true,false,[45,46,47,48,49,50,51,58,59,60]⟩,⟨18,true,true,[59,60]⟩,⟨19,false,false,[]⟩,⟨20,false,false,[]⟩] (by kernel_rfl) ?_
     refine aE ?_
    case' pos=>
     rw[decide_eq_true (by omega:(i:Int)< (fs.length:Int))]
     rw[show fs.getD (Int.toNat (i:Int)) tt=f from J2]
     refine aE ?_
     rw[show fs.getD (Int.toNat (i:Int)) tt=f from J2]
     refine aE ?_
     refine aY (DN s i3.1 f.N f.P hN hP 3 4) Tryz.call30 [20,21] ?_
     have jP:BN (s.fx f.N f.P) (dZ z) (3*i) R:=⟨i2.sn.fx hN hP,i2.rc⟩
     generalize s.fx f.N f.P=s2 at jP⊢
    case' neg=>
     rw[decide_eq_false (by omega:¬(i:Int)< (fs.length:Int))]
     intro _
     have jP:BN s (dZ z) (3*i) R:=i2
     rename U=>s2
    all_goals
     refine aE ?_
     (
 refine af (R0 R (by have:=jP.sn.len;omega) (bR (dZ z)) wb wm) Tryz.call63 (had:=⟨⟨_,rfl,Nat.lt_succ_self _⟩,⟨_,rfl,Nat.lt_succ_self _⟩,trivial⟩) (hz:=fun r hr=>by match r,hr with | 0,_=>rfl | 1,_=>rfl) 2 [24,25,0,0,0,0,0,0,0,61,0,62] [0,0,0,0,0,0,0,0,0,(w 61+1),0,(w 62+1)] [11,9] ?_
 refine aE ?_
 simp only[Int.toNat_natCast,gV]
 by_cases h6:o.K=6
 ·have hM:=fun wb wm=>oB rfl (JL o mF (by omega) R (bR (dZ z)) wb wm)
  have J3:=jP.map.mono (Nat.le_succ (3*i))
  refine af (hM (1+(w 62+1)) (2+(w 61+1))) Tryz.call53 (hon:=⟨(by decide:0<2),tf _,trivial⟩) (hX:=oC _ _ _ _ _) 2 [62,61] [0,0] [] ?_
  refine gg ?_
  simp only[Int.toNat_natCast,gV]
  rcases jP.sn.sw.aW jP.sn.dd la lb with⟨e0,J4⟩ | ⟨e6,tc,J5⟩
  ·have hD:=fun vk vs va vb v0 v1=>ry rfl (SO s2 jP.sn.go (by omega) la lb rfl jP.sn.dd e0 o mF h6 vk vs va vb v0 v1)
   generalize (s2.aW 1).2=s' at hD J4
   have oD:BN s' (dZ z) (3*i+1) R:=⟨J4,jP.rc⟩
   refine af (hD vk vs va vb 3 4) Tryz.call48 (hon:=⟨(by decide:4<6),(by decide:0<6),tf _,trivial⟩) (hX:=⟨oC _ _ _ _ _,rfl,trivial⟩) 6 [16,17,18,19,20,21] [0,0,0,0,0,0] [] ?_
   refine gg ?_
   (
 refine aY (pJ s' false oD.sn.dd 3 4) Tryz.call31 [20,21] ?_
 refine aE ?_
 refine aY (DN s' oD.sn.dd 0 0 (by decide) (by decide) 3 4) Tryz.call30 [20,21] ?_
 have oE:BN (s'.fx 0 0) (dZ z) (3*i+1) R:=⟨oD.sn.fx (by decide) (by decide),oD.rc⟩
 generalize wy:s'.fx 0 0=s4 at oE⊢
 have DP:Calm s4:=by rw[←wy];exact⟨rfl,rfl⟩
 clear wy
 refine aE ?_
 conv=>whnf
 refine ji (hA:=fun hG=>⟨trivial,hG,hG,trivial⟩) (k:= ?_)
 refine af (JM ⟨aK,0,false,0⟩ pP) Tryz.call54 (hon:=⟨oC _ _ _ _ _,oC _ _ _ _ _,trivial⟩) 0 [] [] [] ?_
 refine aE ?_
 conv=>whnf
 refine ji (hA:=fun hG=>⟨trivial,hG,hG,trivial⟩) (k:= ?_)
 refine af (pS oE hy (by omega) (oE.map.mono (by omega)) true ⟨fun _=>rfl,fun _=>rfl⟩ (bR (dZ z)) (1+(vk+1)) (2+(vs+1)) (3+(va+1)) (3+(vb+1)) 3 4 (1+(w 62+1)) (2+(w 61+1))) Tryz.call55 8 [16,17,18,19,20,21,62,61] [0,0,0,0,0,0,0,0] [] ?_
 refine aE ?_
 refine pE (yr 61 25 (wm+1) 62 rfl rfl rfl rfl rfl rfl (Nat.lt_succ_self wm) rfl (wx _)) ?_
 dsimp only[aJ]
 refine pE (yq 62 24 (wb+1) rfl rfl rfl (Nat.lt_succ_self wb) rfl (wv (k:=9) rfl)) ?_
 dsimp only[aJ]
 exact bk ⟨i+1,s4,R,1+(vk+1),2+(vs+1),3+(va+1),3+(vb+1),wb+1,wm+1⟩ ⟨ah,oE.mono (by show 3*i+1≤3*(i+1);omega),DP⟩ (by show l.length - (i+1)<l.length - i;omega))
  ·have hD:=fun vk vs va vb v0 v1=>S9 s2 jP.sn.go (by omega) la lb rfl jP.sn.dd e6 o mF h6 vk vs va vb v0 v1
   generalize (s2.aW 1).2=s' at hD tc J5
   refine af (hD vk vs va vb 3 4) Tryz.call48 (hon:=⟨(by decide:4<6),(by decide:0<6),tf _,trivial⟩) (hX:=⟨oC _ _ _ _ _,trivial,trivial⟩) 6 [16,17,18,19,20,21] [0,0,0,0,0,0] [] ?_
   refine gg ?_
   have he:(6:Int)=6:=rfl
   (
 refine aY (pJ s' true tc 3 4) Tryz.call31 [20,21] ?_
 refine aE ?_
 rw[he]
 refine aE ?_
 conv=>whnf
 refine ji (hA:=fun hG=>⟨trivial,hG,trivial⟩) (k:= ?_)
 refine aY (JY s' tc 3 4) Tryz.call32 [20,21] ?_
 refine aE ?_
 have wA:Calm s'.fy:=⟨rfl,rfl⟩
 have rz:=J5.fy
 obtain⟨o1,DQ⟩:=rz.IW wA la lb
 have cU:=yJ s'.fy 1 rz.go (by omega) la lb rfl rfl o1 3 4
 have rA:Calm (s'.fy.aW 1).2:=wA.aW (rz.s9 rfl)
 have ll:BN (s'.fy.aW 1).2 (dZ z) (3*i+2) R:=⟨DQ,jP.rc⟩
 generalize (s'.fy.aW 1).2=s5 at cU ll rA
 refine af (cU) Tryz.call58 (had:=⟨⟨_,rfl,Nat.lt_succ_self _⟩,⟨_,rfl,Nat.lt_succ_self _⟩,⟨_,rfl,Nat.lt_succ_self _⟩,⟨_,rfl,Nat.lt_succ_self _⟩,trivial⟩) (hz:=fun r hr=>by match r,hr with | 0,_=>rfl | 1,_=>rfl) 2 [20,21,0,0,0,0,0,0,0,0,17,18,19,0,0,0,0,0,16] [0,0,0,0,0,0,0,0,0,0,(vs+1),(va+1),(vb+1),0,0,0,0,0,(vk+1)] [18,10,11,12] ?_
 refine aE ?_
 by_cases heq:R=R
 ·refine af (pS ll hy (by omega) (J3.mono (by omega)) true ⟨fun _=>heq,fun _=>rfl⟩ (bR (dZ z)) (1+(vk+1)) (2+(vs+1)) (3+(va+1)) (3+(vb+1)) 3 4 (1+(w 62+1)) (2+(w 61+1))) Tryz.call55 8 [16,17,18,19,20,21,62,61] [0,0,0,0,0,0,0,0] [] ?_
  refine aE ?_
  refine pE (yr 61 25 (wm+1) 62 rfl rfl rfl rfl rfl rfl (Nat.lt_succ_self wm) rfl (wx _)) ?_
  dsimp only[aJ]
  refine pE (yq 62 24 (wb+1) rfl rfl rfl (Nat.lt_succ_self wb) rfl (wv (k:=9) rfl)) ?_
  dsimp only[aJ]
  exact bk ⟨i+1,s5,R,(1+(vk+1)),(2+(vs+1)),(3+(va+1)),(3+(vb+1)),wb+1,wm+1⟩ ⟨ah,by rw[←heq];exact ll.mono (by show 3*i+2≤3*(i+1);omega),rA⟩ (by show l.length - (i+1)<l.length - i;omega)
 ·have wB:R=R:=(Or.inl rfl:R=R∨R=R).resolve_right heq
  refine af (pS ll hy (by omega) (J3.mono (by omega)) false ⟨fun q=>(by cases q),fun q=>absurd q heq⟩ (bR (dZ z)) (1+(vk+1)) (2+(vs+1)) (3+(va+1)) (3+(vb+1)) 3 4 (1+(w 62+1)) (2+(w 61+1))) Tryz.call55 8 [16,17,18,19,20,21,62,61] [0,0,0,0,0,0,0,0] [] ?_
  refine aE ?_
  refine af (pS ll hy (by omega) (jP.map.mono (by omega)) true ⟨fun _=>wB,fun _=>rfl⟩ (bR (dZ z)) (1+(vk+1)) (2+(vs+1)) (3+(va+1)) (3+(vb+1)) 3 4 wb wm) Tryz.call55 8 [16,17,18,19,20,21,24,25] [0,0,0,0,0,0,0,0] [] ?_
  refine aE ?_
  exact bk ⟨i+1,s5,R,(1+(vk+1)),(2+(vs+1)),(3+(va+1)),(3+(vb+1)),wb,wm⟩ ⟨ah,by rw[←wB];exact ll.mono (by show 3*i+2≤3*(i+1);omega),rA⟩ (by show l.length - (i+1)<l.length - i;omega))
 obtain⟨t,tm,s',R',ht,J6,cA,hD,hM⟩:=S5 jP hy (by omega) o mF h6
 refine af (hM (1+(w 62+1)) (2+(w 61+1))) Tryz.call53 (hon:=⟨(by decide:0<2),tf _,trivial⟩) (hX:=oC _ _ _ _ _) 2 [62,61] [0,0] [] ?_
 refine gg ?_
 simp only[Int.toNat_natCast,gV]
 refine af (hD vk vs va vb 3 4) Tryz.call48 (hon:=⟨(by decide:4<6),(by decide:0<6),tf _,trivial⟩) (hX:=⟨oC _ _ _ _ _,rfl,trivial⟩) 6 [16,17,18,19,20,21] [0,0,0,0,0,0] [] ?_
 refine gg ?_
 rcases cA with⟨rfl,oD⟩ | ⟨he,ef,Td⟩
 ·(
 refine aY (pJ s' false oD.sn.dd 3 4) Tryz.call31 [20,21] ?_
 refine aE ?_
 refine aY (DN s' oD.sn.dd 0 0 (by decide) (by decide) 3 4) Tryz.call30 [20,21] ?_
 have oE:BN (s'.fx 0 0) (dZ z) (3*i+1) R':=⟨oD.sn.fx (by decide) (by decide),oD.rc⟩
 generalize wy:s'.fx 0 0=s4 at oE⊢
 have DP:Calm s4:=by rw[←wy];exact⟨rfl,rfl⟩
 clear wy
 refine aE ?_
 conv=>whnf
 refine ji (hA:=fun hG=>⟨trivial,hG,hG,trivial⟩) (k:= ?_)
 refine af (JM t ht) Tryz.call54 (hon:=⟨oC _ _ _ _ _,oC _ _ _ _ _,trivial⟩) 0 [] [] [] ?_
 refine aE ?_
 conv=>whnf
 refine ji (hA:=fun hG=>⟨trivial,hG,hG,trivial⟩) (k:= ?_)
 refine af (pS oE hy (by omega) (oE.map.mono (by omega)) true ⟨fun _=>rfl,fun _=>rfl⟩ (bR (dZ z)) (vk) (vs) (va) (vb) 3 4 (1+(w 62+1)) (2+(w 61+1))) Tryz.call55 8 [16,17,18,19,20,21,62,61] [0,0,0,0,0,0,0,0] [] ?_
 refine aE ?_
 refine pE (yr 61 25 (wm+1) 62 rfl rfl rfl rfl rfl rfl (Nat.lt_succ_self wm) rfl (wx _)) ?_
 dsimp only[aJ]
 refine pE (yq 62 24 (wb+1) rfl rfl rfl (Nat.lt_succ_self wb) rfl (wv (k:=9) rfl)) ?_
 dsimp only[aJ]
 exact bk ⟨i+1,s4,R',vk,vs,va,vb,wb+1,wm+1⟩ ⟨ah,oE.mono (by show 3*i+1≤3*(i+1);omega),DP⟩ (by show l.length - (i+1)<l.length - i;omega))
 ·obtain⟨Rc,nv,J7⟩:∃Rc,(Rc=R∨Rc=R')∧BW s' (dZ z) (3*i+1) Rc:=by
    rcases Td with h | h
    ·exact⟨R,.inl rfl,h⟩
    ·exact⟨R',.inr rfl,h⟩
  (
 refine aY (pJ s' true ef 3 4) Tryz.call31 [20,21] ?_
 refine aE ?_
 rw[he]
 refine aE ?_
 conv=>whnf
 refine ji (hA:=fun hG=>⟨trivial,hG,trivial⟩) (k:= ?_)
 refine aY (JY s' ef 3 4) Tryz.call32 [20,21] ?_
 refine aE ?_
 have wA:Calm s'.fy:=⟨rfl,rfl⟩
 have rz:=J7.sw.fy
 obtain⟨o1,DQ⟩:=rz.IW wA la lb
 have cU:=yJ s'.fy 1 rz.go (by omega) la lb rfl rfl o1 3 4
 have rA:Calm (s'.fy.aW 1).2:=wA.aW (rz.s9 rfl)
 have ll:BN (s'.fy.aW 1).2 (dZ z) (3*i+2) Rc:=⟨DQ,J7.rc⟩
 generalize (s'.fy.aW 1).2=s5 at cU ll rA
 refine af (cU) Tryz.call58 (had:=⟨⟨_,rfl,Nat.lt_succ_self _⟩,⟨_,rfl,Nat.lt_succ_self _⟩,⟨_,rfl,Nat.lt_succ_self _⟩,⟨_,rfl,Nat.lt_succ_self _⟩,trivial⟩) (hz:=fun r hr=>by match r,hr with | 0,_=>rfl | 1,_=>rfl) 2 [20,21,0,0,0,0,0,0,0,0,17,18,19,0,0,0,0,0,16] [0,0,0,0,0,0,0,0,0,0,(vs+1),(va+1),(vb+1),0,0,0,0,0,(vk+1)] [18,10,11,12] ?_
 refine aE ?_
 by_cases heq:Rc=R'
 ·refine af (pS ll hy (by omega) (J6.mono (by omega)) true ⟨fun _=>heq,fun _=>rfl⟩ (bR (dZ z)) (1+(vk+1)) (2+(vs+1)) (3+(va+1)) (3+(vb+1)) 3 4 (1+(w 62+1)) (2+(w 61+1))) Tryz.call55 8 [16,17,18,19,20,21,62,61] [0,0,0,0,0,0,0,0] [] ?_
  refine aE ?_
  refine pE (yr 61 25 (wm+1) 62 rfl rfl rfl rfl rfl rfl (Nat.lt_succ_self wm) rfl (wx _)) ?_
  dsimp only[aJ]
  refine pE (yq 62 24 (wb+1) rfl rfl rfl (Nat.lt_succ_self wb) rfl (wv (k:=9) rfl)) ?_
  dsimp only[aJ]
  exact bk ⟨i+1,s5,R',(1+(vk+1)),(2+(vs+1)),(3+(va+1)),(3+(vb+1)),wb+1,wm+1⟩ ⟨ah,by rw[←heq];exact ll.mono (by show 3*i+2≤3*(i+1);omega),rA⟩ (by show l.length - (i+1)<l.length - i;omega)
 ·have wB:Rc=R:=nv.resolve_right heq
  refine af (pS ll hy (by omega) (J6.mono (by omega)) false ⟨fun q=>(by cases q),fun q=>absurd q heq⟩ (bR (dZ z)) (1+(vk+1)) (2+(vs+1)) (3+(va+1)) (3+(vb+1)) 3 4 (1+(w 62+1)) (2+(w 61+1))) Tryz.call55 8 [16,17,18,19,20,21,62,61] [0,0,0,0,0,0,0,0] [] ?_
  refine aE ?_
  refine af (pS ll hy (by omega) (jP.map.mono (by omega)) true ⟨fun _=>wB,fun _=>rfl⟩ (bR (dZ z)) (1+(vk+1)) (2+(vs+1)) (3+(va+1)) (3+(vb+1)) 3 4 wb wm) Tryz.call55 8 [16,17,18,19,20,21,24,25] [0,0,0,0,0,0,0,0] [] ?_
  refine aE ?_
  exact bk ⟨i+1,s5,R,(1+(vk+1)),(2+(vs+1)),(3+(va+1)),(3+(vb+1)),wb,wm⟩ ⟨ah,by rw[←wB];exact ll.mono (by show 3*i+2≤3*(i+1);omega),rA⟩ (by show l.length - (i+1)<l.length - i;omega)))
   ·refine aE ?_
    (
 refine af (Dy) Tryz.call40 0 [] [] [] ?_
 refine aE ?_
 exact⟨_,rfl,rfl,trivial⟩)
end Go.Proofs.YtpbpiehcchannaaGreatDoor
