/- Walks of lintellaw21: works. Walk of lintellaw21: KeepNil. Conditions: the premises of each law. -/
import Derived.Test.YtpbpiehcchannaaGreatDoorJKj
namespace Go.Proofs.YtpbpiehcchannaaGreatDoor
open Go.RowKit
set_option linter.unusedVariables false
set_option linter.unusedSimpArgs false
set_option maxRecDepth 100000
set_option maxHeartbeats 1500000
theorem aX_agg{H0 R:List Ent}{xs xs0:List AV}(h:AsX H0 R xs xs0):AX H0 R (.agg xs) (.agg xs0):=fun E E0 w v hr hz hlo hv=>by
 rw[rep] at hv
 rw[rep]
 obtain⟨cs,rfl,hv⟩:=hv
 exact⟨cs,rfl,h E E0 w cs hr hz hlo hv⟩
theorem varA_asX{H0 R:List Ent}{x x0:AV}(h:AX H0 R x x0)(v:VarV):AsX H0 R (varA x v) (varA x0 v):=by
 unfold varA
 repeat (first | exact asX_nil | refine asX_cons (aX_same trivial trivial) ?_)
 exact asX_cons h asX_nil
theorem put_own {W : Int} {n k : Nat} (s : FlS) (c : Nat) (go : Goes W n k s) (hW : W ≤ 1000000000000000) (pa : Lies n k 0 c) (pb : Lies n k c c) (hd : s.dd = false) (v : VarV) (hv : v.Ok) (hr : rightN v.nm = true) (ht : v.t.good) (hl : v.d.length ≤ 65484) (dn : Nat) (hdn : dn = v.d.length) (vk vs va vb v0 v1 v2 : Nat) : Spec Tryz.prog 59 [.ref 0 vk 1 0 0, .agg (varA (.own 6 v2 1 0 dn) v)] [⟨vk, .obj [.ref 1 vs 3 0 0]⟩, ⟨vs, .obj [.ref 4 v0 6 0 0, .ref 2 va 3 0 0, .ref 3 vb 3 0 0]⟩, ⟨va, .obj [.ref 4 v0 6 0 0, .val (.int .i64 ((0 : Nat) : Int)), .val (.int .i64 (c : Int))]⟩, ⟨vb, .obj [.ref 4 v0 6 0 0, .val (.int .i64 (c : Int)), .val (.int .i64 (c : Int))]⟩, ⟨v0, .obj [.own 5 v1 1 0 s.l.length, .val (.int .i64 (s.k : Int)), .val (.int .i64 s.ar), .val (.int .i64 s.pt), .val (.bool s.dd), .val (.int .i64 s.wr)]⟩, ⟨v1, .bytes s.l⟩, ⟨v2, .bytes v.d⟩]
   (pms (.val (.int .i64 (s.set c (keyV v.nm v.g) (laidV v)).1)) [⟨vk,.obj [.ref 1 vs 3 0 0]⟩,⟨vs,.obj [.ref 4 v0 6 0 0,.ref 2 va 3 0 0,.ref 3 vb 3 0 0]⟩,⟨va,.obj [.ref 4 v0 6 0 0,.val (.int .i64 ((0:Nat):Int)),.val (.int .i64 (c:Int))]⟩,⟨vb,.obj [.ref 4 v0 6 0 0,.val (.int .i64 (c:Int)),.val (.int .i64 (c:Int))]⟩,⟨v0,.obj [.own 5 v1 1 0 (s.set c (keyV v.nm v.g) (laidV v)).2.l.length,.val (.int .i64 ((s.set c (keyV v.nm v.g) (laidV v)).2.k:Int)),.val (.int .i64 (s.set c (keyV v.nm v.g) (laidV v)).2.ar),.val (.int .i64 (s.set c (keyV v.nm v.g) (laidV v)).2.pt),.val (.bool (s.set c (keyV v.nm v.g) (laidV v)).2.dd),.val (.int .i64 (s.set c (keyV v.nm v.g) (laidV v)).2.wr)]⟩,⟨v1,.bytes (s.set c (keyV v.nm v.g) (laidV v)).2.l⟩,⟨v2,.bytes v.d⟩] []):=by
 subst hdn
 have e:=whole v.d
 have hS:=put_kv s c go hW pa pb hd v hv hr ht hl 0 vk vs va vb v0 v1
 rw[←e] at hS
 have h:=spec_rx hS (R:=[⟨v2,.bytes v.d⟩]) (args:=[.ref 0 vk 1 0 0,.agg (varA (.own 6 v2 1 0 v.d.length) v)])
  trivial ⟨⟨trivial,trivial⟩,⟨trivial,trivial,trivial,trivial⟩,⟨trivial,trivial,trivial,trivial⟩,⟨trivial,trivial,trivial,trivial⟩,⟨trivial,trivial,trivial,trivial,trivial,trivial,trivial⟩,trivial,trivial⟩ ⟨⟨(by decide:1<6),trivial⟩,⟨(by decide:4<6),(by decide:2<6),(by decide:3<6),trivial⟩,⟨(by decide:4<6),trivial,trivial,trivial⟩,⟨(by decide:4<6),trivial,trivial,trivial⟩,⟨(by decide:5<6),trivial,trivial,trivial,trivial,trivial,trivial⟩,trivial,trivial⟩ ⟨⟨trivial,trivial⟩,⟨trivial,trivial,trivial,trivial⟩,⟨trivial,trivial,trivial,trivial⟩,⟨trivial,trivial,trivial,trivial⟩,⟨trivial,trivial,trivial,trivial,trivial,trivial,trivial⟩,trivial,trivial⟩ rfl trivial trivial
  (asX_cons (aX_same trivial (by decide:0<6)) (asX_cons (aX_agg (varA_asX (aX_own (q:=0) (l:=v.d) rfl (by omega)) v)) asX_nil))
 exact h
theorem varA_on{P:Nat→Prop}{x:AV}(h:onA P x)(v:VarV):onAs P (varA x v):=by
 unfold varA
 repeat (refine And.intro trivial ?_)
 exact⟨h,trivial⟩
def varW:VarV:=⟨strOf [97],List.replicate 16 0,7,⟨0,0,0,0,0,0⟩,List.replicate 32 0,[5]⟩
theorem varW_ok:varW.Ok:=⟨by decide,by decide,by decide,by unfold Tm.ok varW;decide,by decide,by decide⟩
theorem works21_vc:Spec Tryz.prog 40 [] [] (pms (.val (.bool true)) [] []):=by
 have hv:=varW_ok
 have hr:rightN varW.nm=true:=by decide
 have ht:varW.t.good:=⟨hv.t,.inl rfl⟩
 obtain⟨s1,b1,o1,m1⟩:=NM.new (c:=1) (k:=628) (by decide) (by decide)
 have o1':(FlS.new 2 (yOf 500)).opn 1=(0,s1):=o1
 have b1':(FlS.new 2 628).bgn 0 1 1 []=(0,s1):=b1
 have la:Lies 1256 628 0 1:=⟨by decide,by decide,by decide,by decide⟩
 have lb:Lies 1256 628 1 1:=⟨by decide,by decide,by decide,by decide⟩
 have g0:Goes 0 1256 628 (FlS.new 2 628):=Goes.new 2 628 (by decide) (by decide)
 have g1:Goes 14 1256 628 s1:=by have:=g0.bgn0 1 1;rw[b1'] at this;exact this
 have hB:=begun_vc 500 (by decide) s1 o1'
 obtain⟨s2,e2,m2⟩:=(m1.set (by decide) (by decide) (key:=keyV varW.nm varW.g) (val:=laidV varW) (by decide) (by decide)).2 (by decide)
 have g2:=g1.set la lb (keyV varW.nm varW.g) (laidV varW)
 rw[e2] at g2
 have hM:setM [] (keyV varW.nm varW.g) (laidV varW)=[⟨keyV varW.nm varW.g,laidV varW,true⟩]:=rfl
 rw[hM] at m2
 have hG:=kget_in s2 1 m2.lk g2 la lb varW hv hr ht (by decide) (by simp) 3 4 5 5 3 4
 have hU:=kused_vc s2 1 m2.lk g2 la lb 3 4 5 5 3 4
 have hP:=put_own s1 1 g1 (by decide) la lb m1.live varW hv hr ht (by decide) 1 rfl 3 4 5 5 3 4 1
 rw[e2] at hP
 rw[show usedK [⟨keyV varW.nm varW.g,laidV varW,true⟩]=82 by decide] at hU
 clear g0 g1 g2 m1 m2 o1 o1' b1 b1' la lb hM e2
 refine spec_entry tbOk Tryz.func40 rfl Tryz.ntmps40 Tryz.results40 ?_
 refine gg (k:= ?_)
 refine cmks (hB) Tryz.call50 0 [0,0,0,0,0,0,0,0,0,0,0,0,0,0,0,0,0,0,0,0,30,32,31,33,34,35] [0,0,0,0,0,0,0,0,0,0,0,0,0,0,0,0,0,0,0,0,1,1,1,1,1,1] [20,22,21,23,24,25] ?_
 refine gg (k:= ?_)
 refine cmks (hP) Tryz.call59 (hon:=⟨(by decide:0<7),varA_on (x:= .own 6 1 1 0 1) (P:=(· <7)) (show 6<7 by decide) _,trivial⟩) 7 [32,33,34,35,30,31,16] [0,0,0,0,0,0,0] [] ?_
 refine gg (k:= ?_)
 refine cmks (hG) Tryz.call44 6 [32,33,34,35,30,31,0,0,0,0,0,0,0,0,0,0,0,0,0,0,0,0,0,0,0,0,0,0,0,0,0,0,0,0,0,0,0,0,0,0,0,0,0,0,0,0,0,0,0,0,0,0,0,0,22] [0,0,0,0,0,0,0,0,0,0,0,0,0,0,0,0,0,0,0,0,0,0,0,0,0,0,0,0,0,0,0,0,0,0,0,0,0,0,0,0,0,0,0,0,0,0,0,0,0,0,0,0,0,0,1] [54] ?_
 unfold varA
 refine gg (k:= ?_)
 refine cmks (hU) Tryz.call62 6 [32,33,34,35,30,31] [0,0,0,0,0,0] [] ?_
 refine ggO (k:= ?_)
 refine cdet (need21_vc (strOf [97]) (by decide) 1 (by decide)) Tryz.call56 [] ?_
 refine ggO (k:= ?_)
 exact⟨_,rfl,rfl,trivial⟩
end Go.Proofs.YtpbpiehcchannaaGreatDoor
namespace Go.Proofs.YtpbpiehcchannaaGreatDoor
open Go.RowKit
set_option linter.unusedVariables false
set_option linter.unusedSimpArgs false
set_option maxRecDepth 100000
set_option maxHeartbeats 1500000
theorem opA_on{P:Nat→Prop}(o:OpV):onAs P (opA o):=by
 unfold opA varA
 repeat (first | exact trivial | refine And.intro trivial ?_)
theorem varZ_ok:varZ.Ok:=⟨by decide,by decide,by decide,by unfold Tm.ok varZ;decide,by decide,by decide⟩
end Go.Proofs.YtpbpiehcchannaaGreatDoor
