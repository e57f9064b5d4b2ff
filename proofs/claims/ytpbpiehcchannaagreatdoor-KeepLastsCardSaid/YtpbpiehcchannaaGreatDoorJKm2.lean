/- Walks of keep: Put that is refused, Drop, Mark, SetMark. Walks of keep: names, Next. Conditions: the premises of each law. -/
import Derived.Test.YtpbpiehcchannaaGreatDoorJKi
namespace Go.Proofs.YtpbpiehcchannaaGreatDoor
set_option linter.unusedVariables false
set_option linter.unusedSimpArgs false
set_option maxRecDepth 100000
set_option maxHeartbeats 1500000
open Go.RowKit
theorem Ji(t:Tm):eK [Value.int .u16 t.y,.int .u8 t.m,.int .u8 t.d,.int .u8 t.h,.int .u8 t.mi,.int .u8 t.s] [Value.int .u16 0,.int .u8 0,.int .u8 0,.int .u8 0,.int .u8 0,.int .u8 0]=t.nil:=by
 simp only[eK,lW,Tm.nil,Bool.and_true,Bool.and_assoc]
theorem QW (s : U) (c : Nat) (v : aU) (hv : v.Ok) (hP : fA v = false) (z : Nat) (vk vs va vb v0 v1 : Nat) : Spec Tryz.prog 59 [.ref 0 vk 1 0 0, .agg (aV (.bs z v.d) v)] [⟨vk, .obj [.ref 1 vs 3 0 0]⟩, ⟨vs, .obj [.ref 4 v0 6 0 0, .ref 2 va 3 0 0, .ref 3 vb 3 0 0]⟩, ⟨va, .obj [.ref 4 v0 6 0 0, .val (.int .i64 ((0 : Nat) : Int)), .val (.int .i64 (c : Int))]⟩, ⟨vb, .obj [.ref 4 v0 6 0 0, .val (.int .i64 (c : Int)), .val (.int .i64 (c : Int))]⟩, ⟨v0, .obj [.own 5 v1 1 0 s.l.length, .val (.int .i64 (s.k : Int)), .val (.int .i64 s.ar), .val (.int .i64 s.pt), .val (.bool s.dd), .val (.int .i64 s.wr)]⟩, ⟨v1, .bytes s.l⟩]
   (ak (.val (.int .i64 1)) [⟨vk,.obj [.ref 1 vs 3 0 0]⟩,⟨vs,.obj [.ref 4 v0 6 0 0,.ref 2 va 3 0 0,.ref 3 vb 3 0 0]⟩,⟨va,.obj [.ref 4 v0 6 0 0,.val (.int .i64 ((0:Nat):Int)),.val (.int .i64 (c:Int))]⟩,⟨vb,.obj [.ref 4 v0 6 0 0,.val (.int .i64 (c:Int)),.val (.int .i64 (c:Int))]⟩,⟨v0,.obj [.own 5 v1 1 0 s.l.length,.val (.int .i64 (s.k:Int)),.val (.int .i64 s.ar),.val (.int .i64 s.pt),.val (.bool s.dd),.val (.int .i64 s.wr)]⟩,⟨v1,.bytes s.l⟩] []):=by
 obtain⟨⟨a1,a2⟩,⟨b1,b2⟩,⟨c1,c2⟩,⟨d1,d2⟩,⟨e1,e2⟩,f1,f2⟩:=id hv.t
 cases hr:bM v.nm with
 | false=>
  have gC:=yG v.nm hv.nm v.g hr
  (
 refine ax ai Tryz.func59 rfl Tryz.ntmps59 Tryz.results59 ?_
 unfold aV
 refine gg ?_)
  refine aY (gC) Tryz.call97 (hon:=cH) [] ?_
  refine aE ?_
  intro _
  refine aE ?_
  exact⟨_,rfl,rfl,trivial⟩
 | true=>
  have gC:=ta v.nm hv.nm v.g hv.g hr
  have hT:=Ji v.t
  (
 refine ax ai Tryz.func59 rfl Tryz.ntmps59 Tryz.results59 ?_
 unfold aV
 refine gg ?_)
  refine af (gC) Tryz.call97 0 [0,0,0,20] [0,0,0,1] [3] ?_
  iterate 14 refine bD ?_
  rw[show(!decide ((0:Int)=0))=false from rfl]
  refine aE ?_
  rw[hT]
  conv=>whnf
  cases hz:v.t.nil with
  | true=>
   refine And.intro (fun h=>absurd h.2 (by decide)) (fun h=> ?_)
   refine aE ?_
   have hd:decide ((65484:Int)< (v.d.length:Int))=true:=by
    unfold fA at hP
    rw[hr,hz,Bool.or_true,Bool.true_and,Bool.true_and] at hP
    have:=of_decide_eq_false hP
    exact decide_eq_true (by omega)
   rw[hd]
   refine aE ?_
   exact⟨_,rfl,rfl,trivial⟩
  | false=>
   refine And.intro (fun h=>And.intro ⟨trivial,h,trivial⟩ ?_) (fun h=>absurd ⟨rfl,rfl⟩ h)
   refine aY (Dp v.t hv.t) Tryz.call108 (hon:=⟨⟨trivial,trivial,trivial,trivial,trivial,trivial,trivial⟩,trivial⟩) [] ?_
   cases hR:v.t.right with
   | false=>
    refine aE ?_
    refine And.intro (fun _=> ?_) (fun h=>absurd h (by simp))
    refine aE ?_
    exact⟨_,rfl,rfl,trivial⟩
   | true=>
    refine aE ?_
    have hd:decide ((65484:Int)< (v.d.length:Int))=true:=by
     unfold fA at hP
     rw[hr,hR,Bool.true_or,Bool.true_and,Bool.true_and] at hP
     have:=of_decide_eq_false hP
     exact decide_eq_true (by omega)
    rw[hd]
    refine aE ?_
    exact⟨_,rfl,rfl,trivial⟩
theorem QX {W : Int} {n k : Nat} (s : U) (c : Nat) (g : aw W n k s) (hW : W ≤ 1000000000000000) (pa : aA n k 0 c) (pb : aA n k c c) (key : List UInt8) (kn : Nat) (dH : kn = key.length) (vs va vb v0 v1 v2 : Nat) : Spec Tryz.prog 25 [.ref 0 vs 3 0 0, .own 5 v2 1 0 kn] [⟨vs, .obj [.ref 3 v0 6 0 0, .ref 1 va 3 0 0, .ref 2 vb 3 0 0]⟩, ⟨va, .obj [.ref 3 v0 6 0 0, .val (.int .i64 ((0 : Nat) : Int)), .val (.int .i64 (c : Int))]⟩, ⟨vb, .obj [.ref 3 v0 6 0 0, .val (.int .i64 (c : Int)), .val (.int .i64 (c : Int))]⟩, ⟨v0, .obj [.own 4 v1 1 0 s.l.length, .val (.int .i64 (s.k : Int)), .val (.int .i64 s.ar), .val (.int .i64 s.pt), .val (.bool s.dd), .val (.int .i64 s.wr)]⟩, ⟨v1, .bytes s.l⟩, ⟨v2, .bytes key⟩]
   (ak (.val (.int .i64 (s.del c key).1)) [⟨vs,.obj [.ref 3 v0 6 0 0,.ref 1 va 3 0 0,.ref 2 vb 3 0 0]⟩,⟨va,.obj [.ref 3 v0 6 0 0,.val (.int .i64 ((0:Nat):Int)),.val (.int .i64 (c:Int))]⟩,⟨vb,.obj [.ref 3 v0 6 0 0,.val (.int .i64 (c:Int)),.val (.int .i64 (c:Int))]⟩,⟨v0,.obj [.own 4 v1 1 0 (s.del c key).2.l.length,.val (.int .i64 ((s.del c key).2.k:Int)),.val (.int .i64 (s.del c key).2.ar),.val (.int .i64 (s.del c key).2.pt),.val (.bool (s.del c key).2.dd),.val (.int .i64 (s.del c key).2.wr)]⟩,⟨v1,.bytes (s.del c key).2.l⟩,⟨v2,.bytes key⟩] []):=by
 subst dH
 have e':=whole key
 have h:=PE s c g hW pa pb 0 key vs va vb v0 v1
 rw[←e'] at h
 have h:=n9 h (R:=[⟨v2,.bytes key⟩]) (args:=[.ref 0 vs 3 0 0,.own 5 v2 1 0 key.length])
  trivial ⟨⟨trivial,trivial,trivial,trivial⟩,⟨trivial,trivial,trivial,trivial⟩,⟨trivial,trivial,trivial,trivial⟩,⟨trivial,trivial,trivial,trivial,trivial,trivial,trivial⟩,trivial,trivial⟩ ⟨⟨(by decide:3<5),(by decide:1<5),(by decide:2<5),trivial⟩,⟨(by decide:3<5),trivial,trivial,trivial⟩,⟨(by decide:3<5),trivial,trivial,trivial⟩,⟨(by decide:4<5),trivial,trivial,trivial,trivial,trivial,trivial⟩,trivial,trivial⟩ ⟨⟨trivial,trivial,trivial,trivial⟩,⟨trivial,trivial,trivial,trivial⟩,⟨trivial,trivial,trivial,trivial⟩,⟨trivial,trivial,trivial,trivial,trivial,trivial,trivial⟩,trivial,trivial⟩ rfl trivial trivial
  (fO (mq trivial (by decide:0<5)) (fO (oc (q:=0) (l:=key) rfl (by omega)) mo))
 rw[e'] at h
 exact h
theorem QY {W : Int} {n k : Nat} (s : U) (c : Nat) (go : aw W n k s) (hW : W ≤ 1000000000000000) (pa : aA n k 0 c) (pb : aA n k c c) (nm : ByteArray) (g : List UInt8) (hg : g.length = 16) (hr : bM nm = true) (vk vs va vb v0 v1 : Nat) : Spec Tryz.prog 60 [.ref 0 vk 1 0 0, .val (.string nm), .agg (bC 16 g)] [⟨vk, .obj [.ref 1 vs 3 0 0]⟩, ⟨vs, .obj [.ref 4 v0 6 0 0, .ref 2 va 3 0 0, .ref 3 vb 3 0 0]⟩, ⟨va, .obj [.ref 4 v0 6 0 0, .val (.int .i64 ((0 : Nat) : Int)), .val (.int .i64 (c : Int))]⟩, ⟨vb, .obj [.ref 4 v0 6 0 0, .val (.int .i64 (c : Int)), .val (.int .i64 (c : Int))]⟩, ⟨v0, .obj [.own 5 v1 1 0 s.l.length, .val (.int .i64 (s.k : Int)), .val (.int .i64 s.ar), .val (.int .i64 s.pt), .val (.bool s.dd), .val (.int .i64 s.wr)]⟩, ⟨v1, .bytes s.l⟩]
   (ak (.val (.int .i64 (s.del c (aO nm g)).1)) [⟨vk,.obj [.ref 1 vs 3 0 0]⟩,⟨vs,.obj [.ref 4 v0 6 0 0,.ref 2 va 3 0 0,.ref 3 vb 3 0 0]⟩,⟨va,.obj [.ref 4 v0 6 0 0,.val (.int .i64 ((0:Nat):Int)),.val (.int .i64 (c:Int))]⟩,⟨vb,.obj [.ref 4 v0 6 0 0,.val (.int .i64 (c:Int)),.val (.int .i64 (c:Int))]⟩,⟨v0,.obj [.own 5 v1 1 0 (s.del c (aO nm g)).2.l.length,.val (.int .i64 ((s.del c (aO nm g)).2.k:Int)),.val (.int .i64 (s.del c (aO nm g)).2.ar),.val (.int .i64 (s.del c (aO nm g)).2.pt),.val (.bool (s.del c (aO nm g)).2.dd),.val (.int .i64 (s.del c (aO nm g)).2.wr)]⟩,⟨v1,.bytes (s.del c (aO nm g)).2.l⟩] []):=by
 have hz:nm.size≤64:=by
  have:=hr
  unfold bM at this
  simp only[Bool.and_eq_true,decide_eq_true_eq] at this
  omega
 have gC:=ta nm (by omega) g hg hr
 have bH:(aO nm g).length=16+nm.size:=by unfold aO;rw[List.length_append,hg];simp
 have hD:=fun v2=>QX s c go hW pa pb (aO nm g) (16+nm.size) bH.symm vs va vb v0 v1 v2
 refine ax ai Tryz.func60 rfl Tryz.ntmps60 Tryz.results60 ?_
 refine gg ?_
 refine af (gC) Tryz.call97 0 [0,0,0,20] [0,0,0,1] [3] ?_
 refine gg ?_
 refine af (hD 4) Tryz.call25 6 [1,2,3,4,5,20] [0,0,0,0,0,0] [] ?_
 refine gg ?_
 exact⟨_,rfl,rfl,trivial⟩
theorem QZ (s : U) (c : Nat) (nm : ByteArray) (hn : nm.size ≤ 140737488355328) (g : List UInt8) (hr : bM nm = false) (vk vs va vb v0 v1 : Nat) : Spec Tryz.prog 60 [.ref 0 vk 1 0 0, .val (.string nm), .agg (bC 16 g)] [⟨vk, .obj [.ref 1 vs 3 0 0]⟩, ⟨vs, .obj [.ref 4 v0 6 0 0, .ref 2 va 3 0 0, .ref 3 vb 3 0 0]⟩, ⟨va, .obj [.ref 4 v0 6 0 0, .val (.int .i64 ((0 : Nat) : Int)), .val (.int .i64 (c : Int))]⟩, ⟨vb, .obj [.ref 4 v0 6 0 0, .val (.int .i64 (c : Int)), .val (.int .i64 (c : Int))]⟩, ⟨v0, .obj [.own 5 v1 1 0 s.l.length, .val (.int .i64 (s.k : Int)), .val (.int .i64 s.ar), .val (.int .i64 s.pt), .val (.bool s.dd), .val (.int .i64 s.wr)]⟩, ⟨v1, .bytes s.l⟩]
   (ak (.val (.int .i64 1)) [⟨vk,.obj [.ref 1 vs 3 0 0]⟩,⟨vs,.obj [.ref 4 v0 6 0 0,.ref 2 va 3 0 0,.ref 3 vb 3 0 0]⟩,⟨va,.obj [.ref 4 v0 6 0 0,.val (.int .i64 ((0:Nat):Int)),.val (.int .i64 (c:Int))]⟩,⟨vb,.obj [.ref 4 v0 6 0 0,.val (.int .i64 (c:Int)),.val (.int .i64 (c:Int))]⟩,⟨v0,.obj [.own 5 v1 1 0 s.l.length,.val (.int .i64 (s.k:Int)),.val (.int .i64 s.ar),.val (.int .i64 s.pt),.val (.bool s.dd),.val (.int .i64 s.wr)]⟩,⟨v1,.bytes s.l⟩] []):=by
 have gC:=yG nm hn g hr
 refine ax ai Tryz.func60 rfl Tryz.ntmps60 Tryz.results60 ?_
 refine gg ?_
 refine aY (gC) Tryz.call97 (hon:=cH) [] ?_
 refine gg ?_
 exact⟨_,rfl,rfl,trivial⟩
def bQ:List UInt8:=[109,97,114,107]
theorem Q0 {W : Int} {n k : Nat} (s : U) (c : Nat) (go : aw W n k s) (hW : W ≤ 1000000000000000) (pa : aA n k 0 c) (pb : aA n k c c) (hd : s.dd = false) (x : Int) (hx : 0 ≤ x ∧ x ≤ 255) (vk vs va vb v0 v1 : Nat) : Spec Tryz.prog 61 [.ref 0 vk 1 0 0, .val (.int .u8 x)] [⟨vk, .obj [.ref 1 vs 3 0 0]⟩, ⟨vs, .obj [.ref 4 v0 6 0 0, .ref 2 va 3 0 0, .ref 3 vb 3 0 0]⟩, ⟨va, .obj [.ref 4 v0 6 0 0, .val (.int .i64 ((0 : Nat) : Int)), .val (.int .i64 (c : Int))]⟩, ⟨vb, .obj [.ref 4 v0 6 0 0, .val (.int .i64 (c : Int)), .val (.int .i64 (c : Int))]⟩, ⟨v0, .obj [.own 5 v1 1 0 s.l.length, .val (.int .i64 (s.k : Int)), .val (.int .i64 s.ar), .val (.int .i64 s.pt), .val (.bool s.dd), .val (.int .i64 s.wr)]⟩, ⟨v1, .bytes s.l⟩]
   (ak (.val (.int .i64 (s.set c bQ [u8 x]).1)) [⟨vk,.obj [.ref 1 vs 3 0 0]⟩,⟨vs,.obj [.ref 4 v0 6 0 0,.ref 2 va 3 0 0,.ref 3 vb 3 0 0]⟩,⟨va,.obj [.ref 4 v0 6 0 0,.val (.int .i64 ((0:Nat):Int)),.val (.int .i64 (c:Int))]⟩,⟨vb,.obj [.ref 4 v0 6 0 0,.val (.int .i64 (c:Int)),.val (.int .i64 (c:Int))]⟩,⟨v0,.obj [.own 5 v1 1 0 (s.set c bQ [u8 x]).2.l.length,.val (.int .i64 ((s.set c bQ [u8 x]).2.k:Int)),.val (.int .i64 (s.set c bQ [u8 x]).2.ar),.val (.int .i64 (s.set c bQ [u8 x]).2.pt),.val (.bool (s.set c bQ [u8 x]).2.dd),.val (.int .i64 (s.set c bQ [u8 x]).2.wr)]⟩,⟨v1,.bytes (s.set c bQ [u8 x]).2.l⟩] []):=by
 refine ax ai Tryz.func61 rfl Tryz.ntmps61 Tryz.results61 ?_
 refine gg ?_
 refine af (Df s c go hW pa pb hd bQ [u8 x] 4 1 rfl rfl (by decide) (by show(1:Nat)≤_;decide) vs va vb v0 v1 1 1) Tryz.call22 7 [1,2,3,4,5,17,20] [0,0,0,0,0,0,0] [] ?_
 refine gg ?_
 exact⟨_,rfl,rfl,trivial⟩
theorem Q1 {W : Int} {n k : Nat} (s : U) (c : Nat) {M : List RK} (m : LK s c M) (go : aw W n k s) (pa : aA n k 0 c) (pb : aA n k c c) (hm : ∀ r ∈ M, r.key ≠ bQ) (vk vs va vb v0 v1 : Nat) : Spec Tryz.prog 47 [.ref 0 vk 1 0 0] [⟨vk, .obj [.ref 1 vs 3 0 0]⟩, ⟨vs, .obj [.ref 4 v0 6 0 0, .ref 2 va 3 0 0, .ref 3 vb 3 0 0]⟩, ⟨va, .obj [.ref 4 v0 6 0 0, .val (.int .i64 ((0 : Nat) : Int)), .val (.int .i64 (c : Int))]⟩, ⟨vb, .obj [.ref 4 v0 6 0 0, .val (.int .i64 (c : Int)), .val (.int .i64 (c : Int))]⟩, ⟨v0, .obj [.own 5 v1 1 0 s.l.length, .val (.int .i64 (s.k : Int)), .val (.int .i64 s.ar), .val (.int .i64 s.pt), .val (.bool s.dd), .val (.int .i64 s.wr)]⟩, ⟨v1, .bytes s.l⟩]
   (ak (.aD [.val (.int .u8 0),.val (.int .i64 0)]) [⟨vk,.obj [.ref 1 vs 3 0 0]⟩,⟨vs,.obj [.ref 4 v0 6 0 0,.ref 2 va 3 0 0,.ref 3 vb 3 0 0]⟩,⟨va,.obj [.ref 4 v0 6 0 0,.val (.int .i64 ((0:Nat):Int)),.val (.int .i64 (c:Int))]⟩,⟨vb,.obj [.ref 4 v0 6 0 0,.val (.int .i64 (c:Int)),.val (.int .i64 (c:Int))]⟩,⟨v0,.obj [.own 5 v1 1 0 s.l.length,.val (.int .i64 (s.k:Int)),.val (.int .i64 s.ar),.val (.int .i64 s.pt),.val (.bool s.dd),.val (.int .i64 s.wr)]⟩,⟨v1,.bytes s.l⟩] []):=by
 have hG:=I9 s c m go pa pb bQ hm 4 rfl vs va vb v0 v1 1
 clear m hm
 refine ax ai Tryz.func47 rfl Tryz.ntmps47 Tryz.results47 ?_
 refine gg ?_
 refine af (hG) Tryz.call64 6 [1,2,3,4,5,20] [0,0,0,0,0,0] [] ?_
 refine gg ?_
 exact⟨_,rfl,rfl,trivial⟩
theorem Q2 {W : Int} {n k : Nat} (s : U) (c : Nat) {M : List RK} (m : LK s c M) (go : aw W n k s) (pa : aA n k 0 c) (pb : aA n k c c) (x : UInt8) (hm : (⟨bQ, [x], true⟩ : RK) ∈ M) (vk vs va vb v0 v1 : Nat) : Spec Tryz.prog 47 [.ref 0 vk 1 0 0] [⟨vk, .obj [.ref 1 vs 3 0 0]⟩, ⟨vs, .obj [.ref 4 v0 6 0 0, .ref 2 va 3 0 0, .ref 3 vb 3 0 0]⟩, ⟨va, .obj [.ref 4 v0 6 0 0, .val (.int .i64 ((0 : Nat) : Int)), .val (.int .i64 (c : Int))]⟩, ⟨vb, .obj [.ref 4 v0 6 0 0, .val (.int .i64 (c : Int)), .val (.int .i64 (c : Int))]⟩, ⟨v0, .obj [.own 5 v1 1 0 s.l.length, .val (.int .i64 (s.k : Int)), .val (.int .i64 s.ar), .val (.int .i64 s.pt), .val (.bool s.dd), .val (.int .i64 s.wr)]⟩, ⟨v1, .bytes s.l⟩]
   (ak (.aD [.val (bv x),.val (.int .i64 0)]) [⟨vk,.obj [.ref 1 vs 3 0 0]⟩,⟨vs,.obj [.ref 4 v0 6 0 0,.ref 2 va 3 0 0,.ref 3 vb 3 0 0]⟩,⟨va,.obj [.ref 4 v0 6 0 0,.val (.int .i64 ((0:Nat):Int)),.val (.int .i64 (c:Int))]⟩,⟨vb,.obj [.ref 4 v0 6 0 0,.val (.int .i64 (c:Int)),.val (.int .i64 (c:Int))]⟩,⟨v0,.obj [.own 5 v1 1 0 s.l.length,.val (.int .i64 (s.k:Int)),.val (.int .i64 s.ar),.val (.int .i64 s.pt),.val (.bool s.dd),.val (.int .i64 s.wr)]⟩,⟨v1,.bytes s.l⟩] []):=by
 have hG:=I8 s c m go pa pb _ hm 4 rfl vs va vb v0 v1 1
 clear m hm
 refine ax ai Tryz.func47 rfl Tryz.ntmps47 Tryz.results47 ?_
 refine gg ?_
 refine af (hG) Tryz.call64 6 [1,2,3,4,5,20] [0,0,0,0,0,0] [] ?_
 refine gg ?_
 exact⟨_,rfl,rfl,trivial⟩
theorem Jj(z z':Nat)(a b:List UInt8):Spec Tryz.prog 117 [.bs z a,.bs z' b] [] (ak (.val (.int .i64 (Lib.compareBytes a b))) [] []):=by
 intro w E cargs hr cg
 simp only[aq] at cg
 obtain⟨u,vs,rfl,hu,v,rh,rfl,hv,rfl⟩:=cg
 refine(IA w u v a b (Ac hu) (Ac hv)).mono fun e w'⟨h1,h2⟩=> ?_
 subst h2
 exact⟨_,.val _,_,E,h1,⟨[],rfl,rfl,trivial⟩,by rw[ae],hr,Ext.refl _ _,fun z b h=> .inl h,Nat.le_refl _,fun r e b h hb=> .inr ⟨r,e,h,hb⟩,⟨rfl,rfl,rfl,Nat.le_refl _,fun _ _ _=>rfl,fun k cur T fz h=>⟨cur,T,fz,h,Nat.le_refl _⟩,fun r e b h hb _ jJ=>jJ r e h hb⟩⟩
theorem Q3(z:Nat)(a:List UInt8):Spec Tryz.prog 117 [.bs z a,.val (.slice none 0 0)] [] (ak (.val (.int .i64 (Lib.compareBytes a []))) [] []):=
 kC (Jj 0 0 a []) trivial trivial (rows:=[]) (args:=[.bs z a,.val (.slice none 0 0)]) (eA sv (eA xQ iq))
theorem Dz:∀(a b:List UInt8),decide (Lib.compareBytes a b≤0)= !aS b a
 | [],[]=>rfl
 | [],_::_=>rfl
 | _::_,[]=>rfl
 | x::a,y::b=>by
  rw[vZ,Lib.compareBytes]
  by_cases h1:x<y
  ·rw[if_pos h1]
   have h2:¬y<x:=fun q=>UInt8.lt_irrefl _ (UInt8.lt_trans h1 q)
   have h3:¬y=x:=fun e=>by subst e;exact UInt8.lt_irrefl _ h1
   simp[h2,h3]
  ·rw[if_neg h1]
   by_cases h2:y<x
   ·rw[if_pos h2];simp[h2]
   ·rw[if_neg h2,Dz a b]
    have:y=x:=by
     by_cases q:y=x
     ·exact q
     ·rcases UInt8.lt_or_lt_of_ne q with q | q
      ·exact absurd q h2
      ·exact absurd q h1
    simp[h2,this]
def cC(k:List UInt8):Bool:=decide (16≤k.length)&&bM (strOf (k.drop 16))
def eR(ks:List (List UInt8))(beh:List UInt8):Option (List UInt8):=ks.find? fun k=>aS beh k&&cC k
theorem Q4 (nm : ByteArray) (hs : nm.size ≤ 140737488355328) (g : List UInt8) (hg : g.length = 16) (hR : bM nm = true) : Spec Tryz.prog 97 [.val (.string nm), .agg (bC 16 g)] []
   (ak (.aD [.bs 0 (aO nm g),.val (.int .i64 0)]) [] []):=by
 have bH:(aO nm g).length=16+nm.size:=by unfold aO;rw[List.length_append,hg];simp
 exact ix (ta nm hs g hg hR) (by simp[eM]) (AF.aD (aZ.cons (AF.own rfl bH.symm) (aZ.cons AF.same aZ.nil))) trivial
theorem Q5(ks:List (List UInt8))(beh:List UInt8):Spec Tryz.prog 99 [.sl 0 1 (fun k:List UInt8=>[AV.bs 0 k]) [] ks,.bs 0 beh] [] (ak (.clo 144 [.ref 2 1 1 0 0,.ref 3 1 1 0 0]) [] [(2,⟨1,.obj [.sl 0 1 (fun k:List UInt8=>[AV.bs 0 k]) [] ks]⟩),(3,⟨1,.obj [.bs 0 beh]⟩)]):=by
 (
 refine ax ai Tryz.func99 rfl Tryz.ntmps99 Tryz.results99 ?_
 refine gg ?_
 exact⟨_,rfl,rfl,rfl,rfl,trivial⟩)
theorem Q6(ks:List (List UInt8)):Spec Tryz.prog 99 [.sl 0 1 (fun k:List UInt8=>[AV.bs 0 k]) [] ks,.val (.slice none 0 0)] [] (ak (.clo 144 [.ref 2 1 1 0 0,.ref 3 1 1 0 0]) [] [(2,⟨1,.obj [.sl 0 1 (fun k:List UInt8=>[AV.bs 0 k]) [] ks]⟩),(3,⟨1,.obj [.val (.slice none 0 0)]⟩)]):=by
 (
 refine ax ai Tryz.func99 rfl Tryz.ntmps99 Tryz.results99 ?_
 refine gg ?_
 exact⟨_,rfl,rfl,rfl,rfl,trivial⟩)
def eJ(ks:List (List UInt8))(beh:List UInt8):AV:=match eR ks beh with
 | some k=> .aD [.val (.string (strOf (k.drop 16))),.agg (bC 16 (k.take 16)),.val (.int .i64 0)]
 | none=> .aD [.val (.string ByteArray.empty),.agg (bC 16 []),.val (.int .i64 3)]
theorem yN{ks:List (List UInt8)}{beh:List UInt8}{j:Nat}(h:j<ks.length)(hf:(aS beh ks[j]&&cC ks[j])=false):eR (ks.drop j) beh=eR (ks.drop (j+1)) beh:=by
 unfold eR
 rw[List.drop_eq_getElem_cons h,List.find?_cons,hf]
theorem yO{ks:List (List UInt8)}{beh:List UInt8}{j:Nat}(h:j<ks.length)(hf:(aS beh ks[j]&&cC ks[j])=true):eR (ks.drop j) beh=some ks[j]:=by
 unfold eR
 rw[List.drop_eq_getElem_cons h,List.find?_cons,hf]
theorem Jk {W : Int} {n k : Nat} (s : U) (c : Nat) {M : List RK} (m : LK s c M) (go : aw W n k s) (pa : aA n k 0 c) (pb : aA n k c c) (ks : List (List UInt8)) (kF : jK (M.map fun r => r.key) = ks) (bH : ∀ k ∈ ks, k.length ≤ 140737488355328) (dH : ks.length ≤ 140737488355328) (g : List UInt8) (vk vs va vb v0 v1 : Nat) : Spec Tryz.prog 45 [.ref 0 vk 1 0 0, .val (.string ByteArray.empty), .agg (bC 16 g)] [⟨vk, .obj [.ref 1 vs 3 0 0]⟩, ⟨vs, .obj [.ref 4 v0 6 0 0, .ref 2 va 3 0 0, .ref 3 vb 3 0 0]⟩, ⟨va, .obj [.ref 4 v0 6 0 0, .val (.int .i64 ((0 : Nat) : Int)), .val (.int .i64 (c : Int))]⟩, ⟨vb, .obj [.ref 4 v0 6 0 0, .val (.int .i64 (c : Int)), .val (.int .i64 (c : Int))]⟩, ⟨v0, .obj [.own 5 v1 1 0 s.l.length, .val (.int .i64 (s.k : Int)), .val (.int .i64 s.ar), .val (.int .i64 s.pt), .val (.bool s.dd), .val (.int .i64 s.wr)]⟩, ⟨v1, .bytes s.l⟩]
   (ak (eJ ks []) [⟨vk,.obj [.ref 1 vs 3 0 0]⟩,⟨vs,.obj [.ref 4 v0 6 0 0,.ref 2 va 3 0 0,.ref 3 vb 3 0 0]⟩,⟨va,.obj [.ref 4 v0 6 0 0,.val (.int .i64 ((0:Nat):Int)),.val (.int .i64 (c:Int))]⟩,⟨vb,.obj [.ref 4 v0 6 0 0,.val (.int .i64 (c:Int)),.val (.int .i64 (c:Int))]⟩,⟨v0,.obj [.own 5 v1 1 0 s.l.length,.val (.int .i64 (s.k:Int)),.val (.int .i64 s.ar),.val (.int .i64 s.pt),.val (.bool s.dd),.val (.int .i64 s.wr)]⟩,⟨v1,.bytes s.l⟩] []):=by
 have hK:=keys_map s c m go pa pb vs va vb v0 v1
 rw[kF] at hK
 clear m kF
 refine vf ai Tryz.func45 rfl Tryz.ntmps45 Tryz.results45 60 107 ?_
 refine gg ?_
 refine af (hK) Tryz.call72 5 [1,2,3,4,5] [0,0,0,0,0] [] ?_
 refine gg ?_
 (
 refine af (Q6 ks) Tryz.call99 0 [0,0,103,104] [0,0,1,1] [2,3] ?_
 refine gg ?_
 (refine aH ?_)
 conv=>whnf
 refine BG ai (p':=6) (m:=0) 112 0 rfl trivial Tryz.func144 rfl Tryz.ntmps144 Tryz.results144 Tryz.call144 (by kernel_rfl) rfl ?_
 intro i pj pn po
 have hI:Go.RowKit.Hid _:=And.intro pj (And.intro pn po)
 clear pj pn po
 (refine aH ?_)
 refine gg ?_
 (refine aH ?_)
 conv=>whnf
 refine cE (fun j:Nat=>j≤ks.length∧eR ks []=eR (ks.drop j) []) (fun j=>ks.length - j) 6 [5,6,7,8,11,12,13,14,15,16,17,18,19,20,21,22,23,24,25,26,27,28,29,30,31,32,33] (fun j=>[(11,.val (.int .i64 (j:Int)))]) (fun j=>[]) 0 ⟨Nat.zero_le _,rfl⟩ ?_ ?_ ?_
 ·exact no_implicit_lambda%ten
 ·exact no_implicit_lambda%b6
 ·rintro j w ⟨j1,j2⟩
  refine cF ?_
  refine gg ?_
  refine⟨fun h=> ?_,fun h=> ?_⟩
  ·have ah:j<ks.length:=by have:=of_decide_eq_true h;omega
   obtain⟨key,dz⟩:∃key,key=ks[j]:=⟨_,rfl⟩
   have gV:ks.getD (j:Int).toNat []=key:=by rw[dz,Int.toNat_natCast,List.getD_eq_getElem?_getD,List.getElem?_eq_getElem ah];rfl
   have eT:key.length≤140737488355328:=by rw[dz];exact bH _ (List.getElem_mem ah)
   have cr:=yN (beh:=[]) ah
   have jo:=yO (beh:=[]) ah
   rw[←dz] at cr jo
   refine gg ?_
   rw[gV]
   refine af (Q3 0 key) Tryz.call117 0 [] [] [] ?_
   have de:=Dz key []
   cases hq:aS [] key with
   | false=>
    rw[hq] at de cr
    refine gg ?_
    rw[de]
    refine gg ?_
    dsimp only[l8,oT,kR]
    exact bk (j+1) ⟨ah,j2.trans (cr rfl)⟩ (by show ks.length - (j+1)<ks.length - j;omega)
   | true=>
    rw[hq] at de
    cases hv:cC key with
    | false=>
     rw[hq,hv] at cr
     by_cases iC:16≤key.length
     ·have hr:bM (strOf (key.drop 16))=false:=by unfold cC at hv;rw[decide_eq_true iC,Bool.true_and] at hv;exact hv
      refine gg ?_
      rw[de]
      refine gg ?_
      refine aY (I0 key eT 0 iC hr) Tryz.call145 (hX:=cH) [] ?_
      refine gg ?_
      intro _
      refine gg ?_
      dsimp only[l8,oT,kR]
      exact bk (j+1) ⟨ah,j2.trans (cr rfl)⟩ (by show ks.length - (j+1)<ks.length - j;omega)
     ·refine gg ?_
      rw[de]
      refine gg ?_
      refine aY (IZ key eT 0 (by omega)) Tryz.call145 (hX:=cH) [] ?_
      refine gg ?_
      intro _
      refine gg ?_
      dsimp only[l8,oT,kR]
      exact bk (j+1) ⟨ah,j2.trans (cr rfl)⟩ (by show ks.length - (j+1)<ks.length - j;omega)
    | true=>
     rw[hq,hv] at jo
     have hn:=j2.trans (jo rfl)
     obtain⟨iC,hr⟩:16≤key.length∧bM (strOf (key.drop 16))=true:=by
      unfold cC at hv
      rw[Bool.and_eq_true] at hv
      exact⟨of_decide_eq_true hv.1,hv.2⟩
     have hy:=I1 (strOf (key.drop 16)) (by rw[sU,List.length_drop];omega) hr (key.take 16) (by rw[List.length_take];omega) 0
     rw[show key.take 16++(strOf (key.drop 16)).data.toList=key by rw[qV];simp] at hy
     refine gg ?_
     rw[de]
     refine gg ?_
     refine aY (hy) Tryz.call145 (hX:=cH) [] ?_
     refine aE ?_
     conv=>whnf
     obtain⟨fQ,iw,gy⟩:_∧_∧_:=hI
     refine u6 (args:=[.val (.string (strOf (key.drop 16))),.agg (bC 16 (key.take 16))]) ai (p:=60) (i:=i) rfl (by rw[iw];rfl) (by rw[gy];rfl) (by rw[fQ];rfl) ?_
     have c8:i.ps.toList=[46,47]:=by rw[fQ]
     rw[iw,gy,c8]
     clear c8;clear fQ iw gy
     dsimp only[lK,aJ]
     refine gg ?_
     (refine aH ?_)
     refine bL (p:=60) ai hm [0,0,1,7,15] [⟨0,false,false,[]⟩,⟨1,false,false,[15]⟩,⟨2,true,true,[15,49]⟩,⟨3,true,true,[]⟩,⟨4,true,true,[]⟩] (by kernel_rfl) ?_
     refine aE ?_
     refine⟨_,rfl,?_⟩
     refine gg ?_
     (refine aH ?_)
     refine⟨_,jb _,by(repeat' apply And.intro)<;>first | exact trivial | exact Nat.zero_lt_one | exact fun _=>⟨trivial,trivial⟩ | (intro h;cases h;done),by(repeat' apply And.intro)<;>first | exact trivial | exact Nat.zero_lt_one | exact fun _=>⟨trivial,trivial⟩ | (intro h;cases h;done),?_⟩
     refine gg ?_
     unfold eJ
     rw[hn]
     exact⟨_,rfl,rfl,trivial⟩
  ·refine gg ?_
   have hj:j=ks.length:=by have:=of_decide_eq_false h;omega
   subst hj
   rw[List.drop_length] at j2
   refine⟨_,rfl,?_⟩
   refine gg ?_
   (refine aH ?_)
   refine⟨_,jb _,by(repeat' apply And.intro)<;>first | exact trivial | exact Nat.zero_lt_one | exact fun _=>⟨trivial,trivial⟩ | (intro h;cases h;done),by(repeat' apply And.intro)<;>first | exact trivial | exact Nat.zero_lt_one | exact fun _=>⟨trivial,trivial⟩ | (intro h;cases h;done),?_⟩
   refine gg ?_
   unfold eJ
   rw[j2]
   exact⟨_,rfl,rfl,trivial⟩)
theorem Jl {W : Int} {n k : Nat} (s : U) (c : Nat) {M : List RK} (m : LK s c M) (go : aw W n k s) (pa : aA n k 0 c) (pb : aA n k c c) (ks : List (List UInt8)) (kF : jK (M.map fun r => r.key) = ks) (bH : ∀ k ∈ ks, k.length ≤ 140737488355328) (dH : ks.length ≤ 140737488355328) (nm : ByteArray) (j6 : bM nm = true) (g : List UInt8) (hg : g.length = 16) (vk vs va vb v0 v1 : Nat) : Spec Tryz.prog 45 [.ref 0 vk 1 0 0, .val (.string nm), .agg (bC 16 g)] [⟨vk, .obj [.ref 1 vs 3 0 0]⟩, ⟨vs, .obj [.ref 4 v0 6 0 0, .ref 2 va 3 0 0, .ref 3 vb 3 0 0]⟩, ⟨va, .obj [.ref 4 v0 6 0 0, .val (.int .i64 ((0 : Nat) : Int)), .val (.int .i64 (c : Int))]⟩, ⟨vb, .obj [.ref 4 v0 6 0 0, .val (.int .i64 (c : Int)), .val (.int .i64 (c : Int))]⟩, ⟨v0, .obj [.own 5 v1 1 0 s.l.length, .val (.int .i64 (s.k : Int)), .val (.int .i64 s.ar), .val (.int .i64 s.pt), .val (.bool s.dd), .val (.int .i64 s.wr)]⟩, ⟨v1, .bytes s.l⟩]
   (ak (eJ ks (aO nm g)) [⟨vk,.obj [.ref 1 vs 3 0 0]⟩,⟨vs,.obj [.ref 4 v0 6 0 0,.ref 2 va 3 0 0,.ref 3 vb 3 0 0]⟩,⟨va,.obj [.ref 4 v0 6 0 0,.val (.int .i64 ((0:Nat):Int)),.val (.int .i64 (c:Int))]⟩,⟨vb,.obj [.ref 4 v0 6 0 0,.val (.int .i64 (c:Int)),.val (.int .i64 (c:Int))]⟩,⟨v0,.obj [.own 5 v1 1 0 s.l.length,.val (.int .i64 (s.k:Int)),.val (.int .i64 s.ar),.val (.int .i64 s.pt),.val (.bool s.dd),.val (.int .i64 s.wr)]⟩,⟨v1,.bytes s.l⟩] []):=by
 have hz:1≤nm.size∧nm.size≤64:=by
  have:=j6
  unfold bM at this
  simp only[Bool.and_eq_true,decide_eq_true_eq] at this
  exact this.2
 have aG:decide (nm.data.toList=[])=false:=decide_eq_false fun e=>by
  have:nm.size=0:=by have:=congrArg List.length e;simpa using this
  omega
 have gC:=Q4 nm (by omega) g hg j6
 have hK:=keys_map s c m go pa pb vs va vb v0 v1
 rw[kF] at hK
 clear m kF
 refine vf ai Tryz.func45 rfl Tryz.ntmps45 Tryz.results45 60 107 ?_
 refine gg ?_
 rw[aG]
 refine gg ?_
 refine af (gC) Tryz.call97 0 [] [] [] ?_
 refine gg ?_
 refine af (hK) Tryz.call72 5 [1,2,3,4,5] [0,0,0,0,0] [] ?_
 refine gg ?_
 generalize aO nm g=beh
 (
 refine af (Q5 ks beh) Tryz.call99 0 [0,0,103,104] [0,0,1,1] [2,3] ?_
 refine gg ?_
 (refine aH ?_)
 conv=>whnf
 refine BG ai (p':=6) (m:=0) 112 0 rfl trivial Tryz.func144 rfl Tryz.ntmps144 Tryz.results144 Tryz.call144 (by kernel_rfl) rfl ?_
 intro i pj pn po
 have hI:Go.RowKit.Hid _:=And.intro pj (And.intro pn po)
 clear pj pn po
 (refine aH ?_)
 refine gg ?_
 (refine aH ?_)
 conv=>whnf
 refine cE (fun j:Nat=>j≤ks.length∧eR ks beh=eR (ks.drop j) beh) (fun j=>ks.length - j) 6 [5,6,7,8,11,12,13,14,15,16,17,18,19,20,21,22,23,24,25,26,27,28,29,30,31,32,33] (fun j=>[(11,.val (.int .i64 (j:Int)))]) (fun j=>[]) 0 ⟨Nat.zero_le _,rfl⟩ ?_ ?_ ?_
 ·exact no_implicit_lambda%ten
 ·exact no_implicit_lambda%b6
 ·rintro j w ⟨j1,j2⟩
  refine cF ?_
  refine gg ?_
  refine⟨fun h=> ?_,fun h=> ?_⟩
  ·have ah:j<ks.length:=by have:=of_decide_eq_true h;omega
   obtain⟨key,dz⟩:∃key,key=ks[j]:=⟨_,rfl⟩
   have gV:ks.getD (j:Int).toNat []=key:=by rw[dz,Int.toNat_natCast,List.getD_eq_getElem?_getD,List.getElem?_eq_getElem ah];rfl
   have eT:key.length≤140737488355328:=by rw[dz];exact bH _ (List.getElem_mem ah)
   have cr:=yN (beh:=beh) ah
   have jo:=yO (beh:=beh) ah
   rw[←dz] at cr jo
   refine gg ?_
   rw[gV]
   refine af (Jj 0 0 key beh) Tryz.call117 0 [] [] [] ?_
   have de:=Dz key beh
   cases hq:aS beh key with
   | false=>
    rw[hq] at de cr
    refine gg ?_
    rw[de]
    refine gg ?_
    dsimp only[l8,oT,kR]
    exact bk (j+1) ⟨ah,j2.trans (cr rfl)⟩ (by show ks.length - (j+1)<ks.length - j;omega)
   | true=>
    rw[hq] at de
    cases hv:cC key with
    | false=>
     rw[hq,hv] at cr
     by_cases iC:16≤key.length
     ·have hr:bM (strOf (key.drop 16))=false:=by unfold cC at hv;rw[decide_eq_true iC,Bool.true_and] at hv;exact hv
      refine gg ?_
      rw[de]
      refine gg ?_
      refine aY (I0 key eT 0 iC hr) Tryz.call145 (hX:=cH) [] ?_
      refine gg ?_
      intro _
      refine gg ?_
      dsimp only[l8,oT,kR]
      exact bk (j+1) ⟨ah,j2.trans (cr rfl)⟩ (by show ks.length - (j+1)<ks.length - j;omega)
     ·refine gg ?_
      rw[de]
      refine gg ?_
      refine aY (IZ key eT 0 (by omega)) Tryz.call145 (hX:=cH) [] ?_
      refine gg ?_
      intro _
      refine gg ?_
      dsimp only[l8,oT,kR]
      exact bk (j+1) ⟨ah,j2.trans (cr rfl)⟩ (by show ks.length - (j+1)<ks.length - j;omega)
    | true=>
     rw[hq,hv] at jo
     have hn:=j2.trans (jo rfl)
     obtain⟨iC,hr⟩:16≤key.length∧bM (strOf (key.drop 16))=true:=by
      unfold cC at hv
      rw[Bool.and_eq_true] at hv
      exact⟨of_decide_eq_true hv.1,hv.2⟩
     have hy:=I1 (strOf (key.drop 16)) (by rw[sU,List.length_drop];omega) hr (key.take 16) (by rw[List.length_take];omega) 0
     rw[show key.take 16++(strOf (key.drop 16)).data.toList=key by rw[qV];simp] at hy
     refine gg ?_
     rw[de]
     refine gg ?_
     refine aY (hy) Tryz.call145 (hX:=cH) [] ?_
     refine aE ?_
     conv=>whnf
     obtain⟨fQ,iw,gy⟩:_∧_∧_:=hI
     refine u6 (args:=[.val (.string (strOf (key.drop 16))),.agg (bC 16 (key.take 16))]) ai (p:=60) (i:=i) rfl (by rw[iw];rfl) (by rw[gy];rfl) (by rw[fQ];rfl) ?_
     have c8:i.ps.toList=[46,47]:=by rw[fQ]
     rw[iw,gy,c8]
     clear c8;clear fQ iw gy
     dsimp only[lK,aJ]
     refine gg ?_
     (refine aH ?_)
     refine bL (p:=60) ai hm [0,0,1,7,15] [⟨0,false,false,[]⟩,⟨1,false,false,[15]⟩,⟨2,true,true,[15,49]⟩,⟨3,true,true,[]⟩,⟨4,true,true,[]⟩] (by kernel_rfl) ?_
     refine aE ?_
     refine⟨_,rfl,?_⟩
     refine gg ?_
     (refine aH ?_)
     refine⟨_,jb _,by(repeat' apply And.intro)<;>first | exact trivial | exact Nat.zero_lt_one | exact fun _=>⟨trivial,trivial⟩ | (intro h;cases h;done),by(repeat' apply And.intro)<;>first | exact trivial | exact Nat.zero_lt_one | exact fun _=>⟨trivial,trivial⟩ | (intro h;cases h;done),?_⟩
     refine gg ?_
     unfold eJ
     rw[hn]
     exact⟨_,rfl,rfl,trivial⟩
  ·refine gg ?_
   have hj:j=ks.length:=by have:=of_decide_eq_false h;omega
   subst hj
   rw[List.drop_length] at j2
   refine⟨_,rfl,?_⟩
   refine gg ?_
   (refine aH ?_)
   refine⟨_,jb _,by(repeat' apply And.intro)<;>first | exact trivial | exact Nat.zero_lt_one | exact fun _=>⟨trivial,trivial⟩ | (intro h;cases h;done),by(repeat' apply And.intro)<;>first | exact trivial | exact Nat.zero_lt_one | exact fun _=>⟨trivial,trivial⟩ | (intro h;cases h;done),?_⟩
   refine gg ?_
   unfold eJ
   rw[j2]
   exact⟨_,rfl,rfl,trivial⟩)
theorem Q7 (s : U) (c : Nat) (nm : ByteArray) (hn : nm.size ≤ 140737488355328) (j6 : bM nm = false) (aG : decide (nm.data.toList = []) = false) (g : List UInt8) (vk vs va vb v0 v1 : Nat) : Spec Tryz.prog 45 [.ref 0 vk 1 0 0, .val (.string nm), .agg (bC 16 g)] [⟨vk, .obj [.ref 1 vs 3 0 0]⟩, ⟨vs, .obj [.ref 4 v0 6 0 0, .ref 2 va 3 0 0, .ref 3 vb 3 0 0]⟩, ⟨va, .obj [.ref 4 v0 6 0 0, .val (.int .i64 ((0 : Nat) : Int)), .val (.int .i64 (c : Int))]⟩, ⟨vb, .obj [.ref 4 v0 6 0 0, .val (.int .i64 (c : Int)), .val (.int .i64 (c : Int))]⟩, ⟨v0, .obj [.own 5 v1 1 0 s.l.length, .val (.int .i64 (s.k : Int)), .val (.int .i64 s.ar), .val (.int .i64 s.pt), .val (.bool s.dd), .val (.int .i64 s.wr)]⟩, ⟨v1, .bytes s.l⟩]
   (ak (.aD [.val (.string ByteArray.empty),.agg (bC 16 []),.val (.int .i64 1)]) [⟨vk,.obj [.ref 1 vs 3 0 0]⟩,⟨vs,.obj [.ref 4 v0 6 0 0,.ref 2 va 3 0 0,.ref 3 vb 3 0 0]⟩,⟨va,.obj [.ref 4 v0 6 0 0,.val (.int .i64 ((0:Nat):Int)),.val (.int .i64 (c:Int))]⟩,⟨vb,.obj [.ref 4 v0 6 0 0,.val (.int .i64 (c:Int)),.val (.int .i64 (c:Int))]⟩,⟨v0,.obj [.own 5 v1 1 0 s.l.length,.val (.int .i64 (s.k:Int)),.val (.int .i64 s.ar),.val (.int .i64 s.pt),.val (.bool s.dd),.val (.int .i64 s.wr)]⟩,⟨v1,.bytes s.l⟩] []):=by
 have gC:=yG nm hn g j6
 refine vf ai Tryz.func45 rfl Tryz.ntmps45 Tryz.results45 60 107 ?_
 refine gg ?_
 rw[aG]
 refine gg ?_
 refine aY (gC) Tryz.call97 (hon:=cH) [] ?_
 refine gg ?_
 (refine aH ?_)
 refine⟨_,jb _,by(repeat' apply And.intro)<;>first | exact trivial | exact Nat.zero_lt_one | exact fun _=>⟨trivial,trivial⟩ | (intro h;cases h;done),by(repeat' apply And.intro)<;>first | exact trivial | exact Nat.zero_lt_one | exact fun _=>⟨trivial,trivial⟩ | (intro h;cases h;done),?_⟩
 refine gg ?_
 exact⟨_,rfl,rfl,trivial⟩
end Go.Proofs.YtpbpiehcchannaaGreatDoor
