/- Walks of lintellaw21: works. Walk of lintellaw21: KeepNil. Conditions: the premises of each law. -/
import Derived.Test.YtpbpiehcchannaaGreatDoorJKj
namespace Go.Proofs.YtpbpiehcchannaaGreatDoor
set_option linter.unusedVariables false
set_option linter.unusedSimpArgs false
set_option maxRecDepth 100000
set_option maxHeartbeats 1500000
open Go.RowKit
theorem Jf{H0 R:List J}{xs o4:List AV}(h:sx H0 R xs o4):AX H0 R (.agg xs) (.agg o4):=fun E E0 w v hr hz oa hv=>by
 rw[ae] at hv
 rw[ae]
 obtain⟨cs,rfl,hv⟩:=hv
 exact⟨cs,rfl,h E E0 w cs hr hz oa hv⟩
theorem Jg{H0 R:List J}{x x0:AV}(h:AX H0 R x x0)(v:aU):sx H0 R (aV x v) (aV x0 v):=by
 unfold aV
 repeat (first | exact mo | refine fO (mq trivial trivial) ?_)
 exact fO h mo
theorem QU {W : Int} {n k : Nat} (s : U) (c : Nat) (go : aw W n k s) (hW : W ≤ 1000000000000000) (pa : aA n k 0 c) (pb : aA n k c c) (hd : s.dd = false) (v : aU) (hv : v.Ok) (hr : bM v.nm = true) (ht : v.t.pN) (hl : v.d.length ≤ 65484) (dn : Nat) (Dx : dn = v.d.length) (vk vs va vb v0 v1 v2 : Nat) : Spec Tryz.prog 59 [.ref 0 vk 1 0 0, .agg (aV (.own 6 v2 1 0 dn) v)] [⟨vk, .obj [.ref 1 vs 3 0 0]⟩, ⟨vs, .obj [.ref 4 v0 6 0 0, .ref 2 va 3 0 0, .ref 3 vb 3 0 0]⟩, ⟨va, .obj [.ref 4 v0 6 0 0, .val (.int .i64 ((0 : Nat) : Int)), .val (.int .i64 (c : Int))]⟩, ⟨vb, .obj [.ref 4 v0 6 0 0, .val (.int .i64 (c : Int)), .val (.int .i64 (c : Int))]⟩, ⟨v0, .obj [.own 5 v1 1 0 s.l.length, .val (.int .i64 (s.k : Int)), .val (.int .i64 s.ar), .val (.int .i64 s.pt), .val (.bool s.dd), .val (.int .i64 s.wr)]⟩, ⟨v1, .bytes s.l⟩, ⟨v2, .bytes v.d⟩]
   (ak (.val (.int .i64 (s.set c (aO v.nm v.g) (bh v)).1)) [⟨vk,.obj [.ref 1 vs 3 0 0]⟩,⟨vs,.obj [.ref 4 v0 6 0 0,.ref 2 va 3 0 0,.ref 3 vb 3 0 0]⟩,⟨va,.obj [.ref 4 v0 6 0 0,.val (.int .i64 ((0:Nat):Int)),.val (.int .i64 (c:Int))]⟩,⟨vb,.obj [.ref 4 v0 6 0 0,.val (.int .i64 (c:Int)),.val (.int .i64 (c:Int))]⟩,⟨v0,.obj [.own 5 v1 1 0 (s.set c (aO v.nm v.g) (bh v)).2.l.length,.val (.int .i64 ((s.set c (aO v.nm v.g) (bh v)).2.k:Int)),.val (.int .i64 (s.set c (aO v.nm v.g) (bh v)).2.ar),.val (.int .i64 (s.set c (aO v.nm v.g) (bh v)).2.pt),.val (.bool (s.set c (aO v.nm v.g) (bh v)).2.dd),.val (.int .i64 (s.set c (aO v.nm v.g) (bh v)).2.wr)]⟩,⟨v1,.bytes (s.set c (aO v.nm v.g) (bh v)).2.l⟩,⟨v2,.bytes v.d⟩] []):=by
 subst Dx
 have e:=whole v.d
 have hS:=I6 s c go hW pa pb hd v hv hr ht hl 0 vk vs va vb v0 v1
 rw[←e] at hS
 have h:=n9 hS (R:=[⟨v2,.bytes v.d⟩]) (args:=[.ref 0 vk 1 0 0,.agg (aV (.own 6 v2 1 0 v.d.length) v)])
  trivial ⟨⟨trivial,trivial⟩,⟨trivial,trivial,trivial,trivial⟩,⟨trivial,trivial,trivial,trivial⟩,⟨trivial,trivial,trivial,trivial⟩,⟨trivial,trivial,trivial,trivial,trivial,trivial,trivial⟩,trivial,trivial⟩ ⟨⟨(by decide:1<6),trivial⟩,⟨(by decide:4<6),(by decide:2<6),(by decide:3<6),trivial⟩,⟨(by decide:4<6),trivial,trivial,trivial⟩,⟨(by decide:4<6),trivial,trivial,trivial⟩,⟨(by decide:5<6),trivial,trivial,trivial,trivial,trivial,trivial⟩,trivial,trivial⟩ ⟨⟨trivial,trivial⟩,⟨trivial,trivial,trivial,trivial⟩,⟨trivial,trivial,trivial,trivial⟩,⟨trivial,trivial,trivial,trivial⟩,⟨trivial,trivial,trivial,trivial,trivial,trivial,trivial⟩,trivial,trivial⟩ rfl trivial trivial
  (fO (mq trivial (by decide:0<6)) (fO (Jf (Jg (oc (q:=0) (l:=v.d) rfl (by omega)) v)) mo))
 exact h
theorem nI{P:Nat→Prop}{x:AV}(h:cQ P x)(v:aU):cR P (aV x v):=by
 unfold aV
 repeat (refine And.intro trivial ?_)
 exact⟨h,trivial⟩
def gD:aU:=⟨strOf [97],List.replicate 16 0,7,⟨0,0,0,0,0,0⟩,List.replicate 32 0,[5]⟩
theorem QV:gD.Ok:=⟨by decide,by decide,by decide,by unfold Tm.ok gD;decide,by decide,by decide⟩
theorem Dy:Spec Tryz.prog 40 [] [] (ak (.val (.bool true)) [] []):=by
 have hv:=QV
 have hr:bM gD.nm=true:=by decide
 have ht:gD.t.pN:=⟨hv.t,.inl rfl⟩
 obtain⟨s1,b1,o1,m1⟩:=NM.new (c:=1) (k:=628) (by decide) (by decide)
 have Jh:(U.new 2 (dZ 500)).aW 1=(0,s1):=o1
 have Dm:(U.new 2 628).cB 0 1 1 []=(0,s1):=b1
 have la:aA 1256 628 0 1:=⟨by decide,by decide,by decide,by decide⟩
 have lb:aA 1256 628 1 1:=⟨by decide,by decide,by decide,by decide⟩
 have g0:aw 0 1256 628 (U.new 2 628):=aw.new 2 628 (by decide) (by decide)
 have g1:aw 14 1256 628 s1:=by have:=g0.CY 1 1;rw[Dm] at this;exact this
 have hB:=Je 500 (by decide) s1 Jh
 obtain⟨s2,e2,m2⟩:=(m1.set (by decide) (by decide) (key:=aO gD.nm gD.g) (val:=bh gD) (by decide) (by decide)).2 (by decide)
 have g2:=g1.set la lb (aO gD.nm gD.g) (bh gD)
 rw[e2] at g2
 have hM:iM [] (aO gD.nm gD.g) (bh gD)=[⟨aO gD.nm gD.g,bh gD,true⟩]:=rfl
 rw[hM] at m2
 have hG:=Dv s2 1 m2.lk g2 la lb gD hv hr ht (by decide) (by simp) 3 4 5 5 3 4
 have hU:=I7 s2 1 m2.lk g2 la lb 3 4 5 5 3 4
 have hP:=QU s1 1 g1 (by decide) la lb m1.live gD hv hr ht (by decide) 1 rfl 3 4 5 5 3 4 1
 rw[e2] at hP
 rw[show aP [⟨aO gD.nm gD.g,bh gD,true⟩]=82 by decide] at hU
 clear g0 g1 g2 m1 m2 o1 Jh b1 Dm la lb hM e2
 refine ax ai Tryz.func40 rfl Tryz.ntmps40 Tryz.results40 ?_
 refine gg ?_
 refine af (hB) Tryz.call50 0 [0,0,0,0,0,0,0,0,0,0,0,0,0,0,0,0,0,0,0,0,30,32,31,33,34,35] [0,0,0,0,0,0,0,0,0,0,0,0,0,0,0,0,0,0,0,0,1,1,1,1,1,1] [20,22,21,23,24,25] ?_
 refine gg ?_
 refine af (hP) Tryz.call59 (hon:=⟨(by decide:0<7),nI (x:= .own 6 1 1 0 1) (P:=(· <7)) (show 6<7 by decide) _,trivial⟩) 7 [32,33,34,35,30,31,16] [0,0,0,0,0,0,0] [] ?_
 refine gg ?_
 refine af (hG) Tryz.call44 6 [32,33,34,35,30,31,0,0,0,0,0,0,0,0,0,0,0,0,0,0,0,0,0,0,0,0,0,0,0,0,0,0,0,0,0,0,0,0,0,0,0,0,0,0,0,0,0,0,0,0,0,0,0,0,22] [0,0,0,0,0,0,0,0,0,0,0,0,0,0,0,0,0,0,0,0,0,0,0,0,0,0,0,0,0,0,0,0,0,0,0,0,0,0,0,0,0,0,0,0,0,0,0,0,0,0,0,0,0,0,1] [54] ?_
 unfold aV
 refine gg ?_
 refine af (hU) Tryz.call62 6 [32,33,34,35,30,31] [0,0,0,0,0,0] [] ?_
 refine aE ?_
 refine aY (QF (strOf [97]) (by decide) 1 (by decide)) Tryz.call56 [] ?_
 refine aE ?_
 exact⟨_,rfl,rfl,trivial⟩
theorem tf{P:Nat→Prop}(o:du):cR P (bY o):=by
 unfold bY aV
 repeat (first | exact trivial | refine And.intro trivial ?_)
theorem pP:aK.Ok:=⟨by decide,by decide,by decide,by unfold Tm.ok aK;decide,by decide,by decide⟩
end Go.Proofs.YtpbpiehcchannaaGreatDoor
