/- Walks of keep: Put that is refused, Drop, Mark, SetMark. Walks of keep: names, Next. Conditions: the premises of each law. -/
import Derived.Test.YtpbpiehcchannaaGreatDoorJKi
import Derived.Test.YtpbpiehcchannaaGreatDoorJHk
namespace Go.Proofs.YtpbpiehcchannaaGreatDoor
open Go.RowKit
set_option linter.unusedVariables false
set_option linter.unusedSimpArgs false
set_option maxRecDepth 100000
set_option maxHeartbeats 1500000
theorem tnil_eq(t:Tm):eqVs [Value.int .u16 t.y,.int .u8 t.m,.int .u8 t.d,.int .u8 t.h,.int .u8 t.mi,.int .u8 t.s] [Value.int .u16 0,.int .u8 0,.int .u8 0,.int .u8 0,.int .u8 0,.int .u8 0]=t.nil:=by
 simp only[eqVs,eqV,Tm.nil,Bool.and_true,Bool.and_assoc]
theorem kput_bad (s : FlS) (c : Nat) (v : VarV) (hv : v.Ok) (hP : putOk v = false) (z : Nat) (vk vs va vb v0 v1 : Nat) : Spec Tryz.prog 59 [.ref 0 vk 1 0 0, .agg (varA (.bs z v.d) v)] [⟨vk, .obj [.ref 1 vs 3 0 0]⟩, ⟨vs, .obj [.ref 4 v0 6 0 0, .ref 2 va 3 0 0, .ref 3 vb 3 0 0]⟩, ⟨va, .obj [.ref 4 v0 6 0 0, .val (.int .i64 ((0 : Nat) : Int)), .val (.int .i64 (c : Int))]⟩, ⟨vb, .obj [.ref 4 v0 6 0 0, .val (.int .i64 (c : Int)), .val (.int .i64 (c : Int))]⟩, ⟨v0, .obj [.own 5 v1 1 0 s.l.length, .val (.int .i64 (s.k : Int)), .val (.int .i64 s.ar), .val (.int .i64 s.pt), .val (.bool s.dd), .val (.int .i64 s.wr)]⟩, ⟨v1, .bytes s.l⟩]
   (pms (.val (.int .i64 1)) [⟨vk,.obj [.ref 1 vs 3 0 0]⟩,⟨vs,.obj [.ref 4 v0 6 0 0,.ref 2 va 3 0 0,.ref 3 vb 3 0 0]⟩,⟨va,.obj [.ref 4 v0 6 0 0,.val (.int .i64 ((0:Nat):Int)),.val (.int .i64 (c:Int))]⟩,⟨vb,.obj [.ref 4 v0 6 0 0,.val (.int .i64 (c:Int)),.val (.int .i64 (c:Int))]⟩,⟨v0,.obj [.own 5 v1 1 0 s.l.length,.val (.int .i64 (s.k:Int)),.val (.int .i64 s.ar),.val (.int .i64 s.pt),.val (.bool s.dd),.val (.int .i64 s.wr)]⟩,⟨v1,.bytes s.l⟩] []):=by
 obtain⟨⟨a1,a2⟩,⟨b1,b2⟩,⟨c1,c2⟩,⟨d1,d2⟩,⟨e1,e2⟩,f1,f2⟩:=id hv.t
 cases hr:rightN v.nm with
 | false=>
  have hKy:=key_no v.nm hv.nm v.g hr
  (
 refine spec_entry tbOk Tryz.func59 rfl Tryz.ntmps59 Tryz.results59 ?_
 unfold varA
 refine gg (k:= ?_))
  refine cdet (hKy) Tryz.call97 (hon:=rowu) [] ?_
  refine ggO (k:= ?_)
  intro _
  refine ggO (k:= ?_)
  exact⟨_,rfl,rfl,trivial⟩
 | true=>
  have hKy:=key_vc v.nm hv.nm v.g hv.g hr
  have hT:=tnil_eq v.t
  (
 refine spec_entry tbOk Tryz.func59 rfl Tryz.ntmps59 Tryz.results59 ?_
 unfold varA
 refine gg (k:= ?_))
  refine cmks (hKy) Tryz.call97 0 [0,0,0,20] [0,0,0,1] [3] ?_
  iterate 14 refine gos (k:= ?_)
  rw[show(!decide ((0:Int)=0))=false from rfl]
  refine ggO (k:= ?_)
  rw[hT]
  conv=>whnf
  cases hz:v.t.nil with
  | true=>
   refine And.intro (fun h=>absurd h.2 (by decide)) (fun h=> ?_)
   refine ggO (k:= ?_)
   have hd:decide ((65484:Int)< (v.d.length:Int))=true:=by
    unfold putOk at hP
    rw[hr,hz,Bool.or_true,Bool.true_and,Bool.true_and] at hP
    have:=of_decide_eq_false hP
    exact decide_eq_true (by omega)
   rw[hd]
   refine ggO (k:= ?_)
   exact⟨_,rfl,rfl,trivial⟩
  | false=>
   refine And.intro (fun h=>And.intro ⟨trivial,h,trivial⟩ ?_) (fun h=>absurd ⟨rfl,rfl⟩ h)
   refine cdet (tright_vc v.t hv.t) Tryz.call108 (hon:=⟨⟨trivial,trivial,trivial,trivial,trivial,trivial,trivial⟩,trivial⟩) [] ?_
   cases hR:v.t.right with
   | false=>
    refine ggO (k:= ?_)
    refine And.intro (fun _=> ?_) (fun h=>absurd h (by simp))
    refine ggO (k:= ?_)
    exact⟨_,rfl,rfl,trivial⟩
   | true=>
    refine ggO (k:= ?_)
    have hd:decide ((65484:Int)< (v.d.length:Int))=true:=by
     unfold putOk at hP
     rw[hr,hR,Bool.true_or,Bool.true_and,Bool.true_and] at hP
     have:=of_decide_eq_false hP
     exact decide_eq_true (by omega)
    rw[hd]
    refine ggO (k:= ?_)
    exact⟨_,rfl,rfl,trivial⟩
theorem del_own {W : Int} {n k : Nat} (s : FlS) (c : Nat) (g : Goes W n k s) (hW : W ≤ 1000000000000000) (pa : Lies n k 0 c) (pb : Lies n k c c) (key : List UInt8) (kn : Nat) (hkn : kn = key.length) (vs va vb v0 v1 v2 : Nat) : Spec Tryz.prog 25 [.ref 0 vs 3 0 0, .own 5 v2 1 0 kn] [⟨vs, .obj [.ref 3 v0 6 0 0, .ref 1 va 3 0 0, .ref 2 vb 3 0 0]⟩, ⟨va, .obj [.ref 3 v0 6 0 0, .val (.int .i64 ((0 : Nat) : Int)), .val (.int .i64 (c : Int))]⟩, ⟨vb, .obj [.ref 3 v0 6 0 0, .val (.int .i64 (c : Int)), .val (.int .i64 (c : Int))]⟩, ⟨v0, .obj [.own 4 v1 1 0 s.l.length, .val (.int .i64 (s.k : Int)), .val (.int .i64 s.ar), .val (.int .i64 s.pt), .val (.bool s.dd), .val (.int .i64 s.wr)]⟩, ⟨v1, .bytes s.l⟩, ⟨v2, .bytes key⟩]
   (pms (.val (.int .i64 (s.del c key).1)) [⟨vs,.obj [.ref 3 v0 6 0 0,.ref 1 va 3 0 0,.ref 2 vb 3 0 0]⟩,⟨va,.obj [.ref 3 v0 6 0 0,.val (.int .i64 ((0:Nat):Int)),.val (.int .i64 (c:Int))]⟩,⟨vb,.obj [.ref 3 v0 6 0 0,.val (.int .i64 (c:Int)),.val (.int .i64 (c:Int))]⟩,⟨v0,.obj [.own 4 v1 1 0 (s.del c key).2.l.length,.val (.int .i64 ((s.del c key).2.k:Int)),.val (.int .i64 (s.del c key).2.ar),.val (.int .i64 (s.del c key).2.pt),.val (.bool (s.del c key).2.dd),.val (.int .i64 (s.del c key).2.wr)]⟩,⟨v1,.bytes (s.del c key).2.l⟩,⟨v2,.bytes key⟩] []):=by
 subst hkn
 have e':=whole key
 have h:=dels_vc s c g hW pa pb 0 key vs va vb v0 v1
 rw[←e'] at h
 have h:=spec_rx h (R:=[⟨v2,.bytes key⟩]) (args:=[.ref 0 vs 3 0 0,.own 5 v2 1 0 key.length])
  trivial ⟨⟨trivial,trivial,trivial,trivial⟩,⟨trivial,trivial,trivial,trivial⟩,⟨trivial,trivial,trivial,trivial⟩,⟨trivial,trivial,trivial,trivial,trivial,trivial,trivial⟩,trivial,trivial⟩ ⟨⟨(by decide:3<5),(by decide:1<5),(by decide:2<5),trivial⟩,⟨(by decide:3<5),trivial,trivial,trivial⟩,⟨(by decide:3<5),trivial,trivial,trivial⟩,⟨(by decide:4<5),trivial,trivial,trivial,trivial,trivial,trivial⟩,trivial,trivial⟩ ⟨⟨trivial,trivial,trivial,trivial⟩,⟨trivial,trivial,trivial,trivial⟩,⟨trivial,trivial,trivial,trivial⟩,⟨trivial,trivial,trivial,trivial,trivial,trivial,trivial⟩,trivial,trivial⟩ rfl trivial trivial
  (asX_cons (aX_same trivial (by decide:0<5)) (asX_cons (aX_own (q:=0) (l:=key) rfl (by omega)) asX_nil))
 rw[e'] at h
 exact h
theorem kdrop_vc {W : Int} {n k : Nat} (s : FlS) (c : Nat) (go : Goes W n k s) (hW : W ≤ 1000000000000000) (pa : Lies n k 0 c) (pb : Lies n k c c) (nm : ByteArray) (g : List UInt8) (hg : g.length = 16) (hr : rightN nm = true) (vk vs va vb v0 v1 : Nat) : Spec Tryz.prog 60 [.ref 0 vk 1 0 0, .val (.string nm), .agg (bytesA 16 g)] [⟨vk, .obj [.ref 1 vs 3 0 0]⟩, ⟨vs, .obj [.ref 4 v0 6 0 0, .ref 2 va 3 0 0, .ref 3 vb 3 0 0]⟩, ⟨va, .obj [.ref 4 v0 6 0 0, .val (.int .i64 ((0 : Nat) : Int)), .val (.int .i64 (c : Int))]⟩, ⟨vb, .obj [.ref 4 v0 6 0 0, .val (.int .i64 (c : Int)), .val (.int .i64 (c : Int))]⟩, ⟨v0, .obj [.own 5 v1 1 0 s.l.length, .val (.int .i64 (s.k : Int)), .val (.int .i64 s.ar), .val (.int .i64 s.pt), .val (.bool s.dd), .val (.int .i64 s.wr)]⟩, ⟨v1, .bytes s.l⟩]
   (pms (.val (.int .i64 (s.del c (keyV nm g)).1)) [⟨vk,.obj [.ref 1 vs 3 0 0]⟩,⟨vs,.obj [.ref 4 v0 6 0 0,.ref 2 va 3 0 0,.ref 3 vb 3 0 0]⟩,⟨va,.obj [.ref 4 v0 6 0 0,.val (.int .i64 ((0:Nat):Int)),.val (.int .i64 (c:Int))]⟩,⟨vb,.obj [.ref 4 v0 6 0 0,.val (.int .i64 (c:Int)),.val (.int .i64 (c:Int))]⟩,⟨v0,.obj [.own 5 v1 1 0 (s.del c (keyV nm g)).2.l.length,.val (.int .i64 ((s.del c (keyV nm g)).2.k:Int)),.val (.int .i64 (s.del c (keyV nm g)).2.ar),.val (.int .i64 (s.del c (keyV nm g)).2.pt),.val (.bool (s.del c (keyV nm g)).2.dd),.val (.int .i64 (s.del c (keyV nm g)).2.wr)]⟩,⟨v1,.bytes (s.del c (keyV nm g)).2.l⟩] []):=by
 have hz:nm.size≤64:=by
  have:=hr
  unfold rightN at this
  simp only[Bool.and_eq_true,decide_eq_true_eq] at this
  omega
 have hKy:=key_vc nm (by omega) g hg hr
 have hkl:(keyV nm g).length=16+nm.size:=by unfold keyV;rw[List.length_append,hg];simp
 have hD:=fun v2=>del_own s c go hW pa pb (keyV nm g) (16+nm.size) hkl.symm vs va vb v0 v1 v2
 refine spec_entry tbOk Tryz.func60 rfl Tryz.ntmps60 Tryz.results60 ?_
 refine gg (k:= ?_)
 refine cmks (hKy) Tryz.call97 0 [0,0,0,20] [0,0,0,1] [3] ?_
 refine gg (k:= ?_)
 refine cmks (hD 4) Tryz.call25 6 [1,2,3,4,5,20] [0,0,0,0,0,0] [] ?_
 refine gg (k:= ?_)
 exact⟨_,rfl,rfl,trivial⟩
theorem kdrop_bad (s : FlS) (c : Nat) (nm : ByteArray) (hn : nm.size ≤ 140737488355328) (g : List UInt8) (hr : rightN nm = false) (vk vs va vb v0 v1 : Nat) : Spec Tryz.prog 60 [.ref 0 vk 1 0 0, .val (.string nm), .agg (bytesA 16 g)] [⟨vk, .obj [.ref 1 vs 3 0 0]⟩, ⟨vs, .obj [.ref 4 v0 6 0 0, .ref 2 va 3 0 0, .ref 3 vb 3 0 0]⟩, ⟨va, .obj [.ref 4 v0 6 0 0, .val (.int .i64 ((0 : Nat) : Int)), .val (.int .i64 (c : Int))]⟩, ⟨vb, .obj [.ref 4 v0 6 0 0, .val (.int .i64 (c : Int)), .val (.int .i64 (c : Int))]⟩, ⟨v0, .obj [.own 5 v1 1 0 s.l.length, .val (.int .i64 (s.k : Int)), .val (.int .i64 s.ar), .val (.int .i64 s.pt), .val (.bool s.dd), .val (.int .i64 s.wr)]⟩, ⟨v1, .bytes s.l⟩]
   (pms (.val (.int .i64 1)) [⟨vk,.obj [.ref 1 vs 3 0 0]⟩,⟨vs,.obj [.ref 4 v0 6 0 0,.ref 2 va 3 0 0,.ref 3 vb 3 0 0]⟩,⟨va,.obj [.ref 4 v0 6 0 0,.val (.int .i64 ((0:Nat):Int)),.val (.int .i64 (c:Int))]⟩,⟨vb,.obj [.ref 4 v0 6 0 0,.val (.int .i64 (c:Int)),.val (.int .i64 (c:Int))]⟩,⟨v0,.obj [.own 5 v1 1 0 s.l.length,.val (.int .i64 (s.k:Int)),.val (.int .i64 s.ar),.val (.int .i64 s.pt),.val (.bool s.dd),.val (.int .i64 s.wr)]⟩,⟨v1,.bytes s.l⟩] []):=by
 have hKy:=key_no nm hn g hr
 refine spec_entry tbOk Tryz.func60 rfl Tryz.ntmps60 Tryz.results60 ?_
 refine gg (k:= ?_)
 refine cdet (hKy) Tryz.call97 (hon:=rowu) [] ?_
 refine gg (k:= ?_)
 exact⟨_,rfl,rfl,trivial⟩
def markK:List UInt8:=[109,97,114,107]
theorem kset_vc {W : Int} {n k : Nat} (s : FlS) (c : Nat) (go : Goes W n k s) (hW : W ≤ 1000000000000000) (pa : Lies n k 0 c) (pb : Lies n k c c) (hd : s.dd = false) (x : Int) (hx : 0 ≤ x ∧ x ≤ 255) (vk vs va vb v0 v1 : Nat) : Spec Tryz.prog 61 [.ref 0 vk 1 0 0, .val (.int .u8 x)] [⟨vk, .obj [.ref 1 vs 3 0 0]⟩, ⟨vs, .obj [.ref 4 v0 6 0 0, .ref 2 va 3 0 0, .ref 3 vb 3 0 0]⟩, ⟨va, .obj [.ref 4 v0 6 0 0, .val (.int .i64 ((0 : Nat) : Int)), .val (.int .i64 (c : Int))]⟩, ⟨vb, .obj [.ref 4 v0 6 0 0, .val (.int .i64 (c : Int)), .val (.int .i64 (c : Int))]⟩, ⟨v0, .obj [.own 5 v1 1 0 s.l.length, .val (.int .i64 (s.k : Int)), .val (.int .i64 s.ar), .val (.int .i64 s.pt), .val (.bool s.dd), .val (.int .i64 s.wr)]⟩, ⟨v1, .bytes s.l⟩]
   (pms (.val (.int .i64 (s.set c markK [u8 x]).1)) [⟨vk,.obj [.ref 1 vs 3 0 0]⟩,⟨vs,.obj [.ref 4 v0 6 0 0,.ref 2 va 3 0 0,.ref 3 vb 3 0 0]⟩,⟨va,.obj [.ref 4 v0 6 0 0,.val (.int .i64 ((0:Nat):Int)),.val (.int .i64 (c:Int))]⟩,⟨vb,.obj [.ref 4 v0 6 0 0,.val (.int .i64 (c:Int)),.val (.int .i64 (c:Int))]⟩,⟨v0,.obj [.own 5 v1 1 0 (s.set c markK [u8 x]).2.l.length,.val (.int .i64 ((s.set c markK [u8 x]).2.k:Int)),.val (.int .i64 (s.set c markK [u8 x]).2.ar),.val (.int .i64 (s.set c markK [u8 x]).2.pt),.val (.bool (s.set c markK [u8 x]).2.dd),.val (.int .i64 (s.set c markK [u8 x]).2.wr)]⟩,⟨v1,.bytes (s.set c markK [u8 x]).2.l⟩] []):=by
 refine spec_entry tbOk Tryz.func61 rfl Tryz.ntmps61 Tryz.results61 ?_
 refine gg (k:= ?_)
 refine cmks (set_own s c go hW pa pb hd markK [u8 x] 4 1 rfl rfl (by decide) (by show(1:Nat)≤_;decide) vs va vb v0 v1 1 1) Tryz.call22 7 [1,2,3,4,5,17,20] [0,0,0,0,0,0,0] [] ?_
 refine gg (k:= ?_)
 exact⟨_,rfl,rfl,trivial⟩
theorem kmark_no {W : Int} {n k : Nat} (s : FlS) (c : Nat) {M : List RK} (m : LK s c M) (go : Goes W n k s) (pa : Lies n k 0 c) (pb : Lies n k c c) (hm : ∀ r ∈ M, r.key ≠ markK) (vk vs va vb v0 v1 : Nat) : Spec Tryz.prog 47 [.ref 0 vk 1 0 0] [⟨vk, .obj [.ref 1 vs 3 0 0]⟩, ⟨vs, .obj [.ref 4 v0 6 0 0, .ref 2 va 3 0 0, .ref 3 vb 3 0 0]⟩, ⟨va, .obj [.ref 4 v0 6 0 0, .val (.int .i64 ((0 : Nat) : Int)), .val (.int .i64 (c : Int))]⟩, ⟨vb, .obj [.ref 4 v0 6 0 0, .val (.int .i64 (c : Int)), .val (.int .i64 (c : Int))]⟩, ⟨v0, .obj [.own 5 v1 1 0 s.l.length, .val (.int .i64 (s.k : Int)), .val (.int .i64 s.ar), .val (.int .i64 s.pt), .val (.bool s.dd), .val (.int .i64 s.wr)]⟩, ⟨v1, .bytes s.l⟩]
   (pms (.tup [.val (.int .u8 0),.val (.int .i64 0)]) [⟨vk,.obj [.ref 1 vs 3 0 0]⟩,⟨vs,.obj [.ref 4 v0 6 0 0,.ref 2 va 3 0 0,.ref 3 vb 3 0 0]⟩,⟨va,.obj [.ref 4 v0 6 0 0,.val (.int .i64 ((0:Nat):Int)),.val (.int .i64 (c:Int))]⟩,⟨vb,.obj [.ref 4 v0 6 0 0,.val (.int .i64 (c:Int)),.val (.int .i64 (c:Int))]⟩,⟨v0,.obj [.own 5 v1 1 0 s.l.length,.val (.int .i64 (s.k:Int)),.val (.int .i64 s.ar),.val (.int .i64 s.pt),.val (.bool s.dd),.val (.int .i64 s.wr)]⟩,⟨v1,.bytes s.l⟩] []):=by
 have hG:=getn_own s c m go pa pb markK hm 4 rfl vs va vb v0 v1 1
 clear m hm
 refine spec_entry tbOk Tryz.func47 rfl Tryz.ntmps47 Tryz.results47 ?_
 refine gg (k:= ?_)
 refine cmks (hG) Tryz.call64 6 [1,2,3,4,5,20] [0,0,0,0,0,0] [] ?_
 refine gg (k:= ?_)
 exact⟨_,rfl,rfl,trivial⟩
theorem kmark_in {W : Int} {n k : Nat} (s : FlS) (c : Nat) {M : List RK} (m : LK s c M) (go : Goes W n k s) (pa : Lies n k 0 c) (pb : Lies n k c c) (x : UInt8) (hm : (⟨markK, [x], true⟩ : RK) ∈ M) (vk vs va vb v0 v1 : Nat) : Spec Tryz.prog 47 [.ref 0 vk 1 0 0] [⟨vk, .obj [.ref 1 vs 3 0 0]⟩, ⟨vs, .obj [.ref 4 v0 6 0 0, .ref 2 va 3 0 0, .ref 3 vb 3 0 0]⟩, ⟨va, .obj [.ref 4 v0 6 0 0, .val (.int .i64 ((0 : Nat) : Int)), .val (.int .i64 (c : Int))]⟩, ⟨vb, .obj [.ref 4 v0 6 0 0, .val (.int .i64 (c : Int)), .val (.int .i64 (c : Int))]⟩, ⟨v0, .obj [.own 5 v1 1 0 s.l.length, .val (.int .i64 (s.k : Int)), .val (.int .i64 s.ar), .val (.int .i64 s.pt), .val (.bool s.dd), .val (.int .i64 s.wr)]⟩, ⟨v1, .bytes s.l⟩]
   (pms (.tup [.val (bv x),.val (.int .i64 0)]) [⟨vk,.obj [.ref 1 vs 3 0 0]⟩,⟨vs,.obj [.ref 4 v0 6 0 0,.ref 2 va 3 0 0,.ref 3 vb 3 0 0]⟩,⟨va,.obj [.ref 4 v0 6 0 0,.val (.int .i64 ((0:Nat):Int)),.val (.int .i64 (c:Int))]⟩,⟨vb,.obj [.ref 4 v0 6 0 0,.val (.int .i64 (c:Int)),.val (.int .i64 (c:Int))]⟩,⟨v0,.obj [.own 5 v1 1 0 s.l.length,.val (.int .i64 (s.k:Int)),.val (.int .i64 s.ar),.val (.int .i64 s.pt),.val (.bool s.dd),.val (.int .i64 s.wr)]⟩,⟨v1,.bytes s.l⟩] []):=by
 have hG:=getm_own s c m go pa pb _ hm 4 rfl vs va vb v0 v1 1
 clear m hm
 refine spec_entry tbOk Tryz.func47 rfl Tryz.ntmps47 Tryz.results47 ?_
 refine gg (k:= ?_)
 refine cmks (hG) Tryz.call64 6 [1,2,3,4,5,20] [0,0,0,0,0,0] [] ?_
 refine gg (k:= ?_)
 exact⟨_,rfl,rfl,trivial⟩
end Go.Proofs.YtpbpiehcchannaaGreatDoor
namespace Go.Proofs.YtpbpiehcchannaaGreatDoor
open Go.RowKit
set_option linter.unusedVariables false
set_option linter.unusedSimpArgs false
set_option maxRecDepth 100000
set_option maxHeartbeats 1500000
theorem compare_vc(z z':Nat)(a b:List UInt8):Spec Tryz.prog 117 [.bs z a,.bs z' b] [] (pms (.val (.int .i64 (Lib.compareBytes a b))) [] []):=by
 intro w E cargs hr hargs
 simp only[reps] at hargs
 obtain⟨u,vs,rfl,hu,v,vs2,rfl,hv,rfl⟩:=hargs
 refine(compare_bs w u v a b (bs_of_rep hu) (bs_of_rep hv)).mono fun e w'⟨h1,h2⟩=> ?_
 subst h2
 exact⟨_,.val _,_,E,h1,⟨[],rfl,rfl,trivial⟩,by rw[rep],hr,Ext.refl _ _,fun z b h=> .inl h,Nat.le_refl _,fun r e b h hb=> .inr ⟨r,e,h,hb⟩,⟨rfl,rfl,rfl,Nat.le_refl _,fun _ _ _=>rfl,fun k cur T fz h=>⟨cur,T,fz,h,Nat.le_refl _⟩,fun r e b h hb _ hkp=>hkp r e h hb⟩⟩
theorem compare_nil(z:Nat)(a:List UInt8):Spec Tryz.prog 117 [.bs z a,.val (.slice none 0 0)] [] (pms (.val (.int .i64 (Lib.compareBytes a []))) [] []):=
 spec_ro (compare_vc 0 0 a []) trivial trivial (rows:=[]) (args:=[.bs z a,.val (.slice none 0 0)]) (asL_cons as_bs (asL_cons as_nil asL_nil))
theorem cmp_le:∀(a b:List UInt8),decide (Lib.compareBytes a b≤0)= !ltB b a
 | [],[]=>rfl
 | [],_::_=>rfl
 | _::_,[]=>rfl
 | x::a,y::b=>by
  rw[ltB_cons,Lib.compareBytes]
  by_cases h1:x<y
  ·rw[if_pos h1]
   have h2:¬y<x:=fun q=>UInt8.lt_irrefl _ (UInt8.lt_trans h1 q)
   have h3:¬y=x:=fun e=>by subst e;exact UInt8.lt_irrefl _ h1
   simp[h2,h3]
  ·rw[if_neg h1]
   by_cases h2:y<x
   ·rw[if_pos h2];simp[h2]
   ·rw[if_neg h2,cmp_le a b]
    have:y=x:=by
     by_cases q:y=x
     ·exact q
     ·rcases UInt8.lt_or_lt_of_ne q with q | q
      ·exact absurd q h2
      ·exact absurd q h1
    simp[h2,this]
def isVK(k:List UInt8):Bool:=decide (16≤k.length)&&rightN (strOf (k.drop 16))
def nextK(ks:List (List UInt8))(beh:List UInt8):Option (List UInt8):=ks.find? fun k=>ltB beh k&&isVK k
theorem key_frz (nm : ByteArray) (hs : nm.size ≤ 140737488355328) (g : List UInt8) (hg : g.length = 16) (hR : rightN nm = true) : Spec Tryz.prog 97 [.val (.string nm), .agg (bytesA 16 g)] []
   (pms (.tup [.bs 0 (keyV nm g),.val (.int .i64 0)]) [] []):=by
 have hkl:(keyV nm g).length=16+nm.size:=by unfold keyV;rw[List.length_append,hg];simp
 exact spec_frz (key_vc nm hs g hg hR) (by simp[geM]) (AF.tup (AFL.cons (AF.own rfl hkl.symm) (AFL.cons AF.same AFL.nil))) trivial
theorem names_bs(ks:List (List UInt8))(beh:List UInt8):Spec Tryz.prog 99 [.sl 0 1 (fun k:List UInt8=>[AV.bs 0 k]) [] ks,.bs 0 beh] [] (pms (.clo 144 [.ref 2 1 1 0 0,.ref 3 1 1 0 0]) [] [(2,⟨1,.obj [.sl 0 1 (fun k:List UInt8=>[AV.bs 0 k]) [] ks]⟩),(3,⟨1,.obj [.bs 0 beh]⟩)]):=by
 (
 refine spec_entry tbOk Tryz.func99 rfl Tryz.ntmps99 Tryz.results99 ?_
 refine gg (k:= ?_)
 exact⟨_,rfl,rfl,rfl,rfl,trivial⟩)
theorem names_nil(ks:List (List UInt8)):Spec Tryz.prog 99 [.sl 0 1 (fun k:List UInt8=>[AV.bs 0 k]) [] ks,.val (.slice none 0 0)] [] (pms (.clo 144 [.ref 2 1 1 0 0,.ref 3 1 1 0 0]) [] [(2,⟨1,.obj [.sl 0 1 (fun k:List UInt8=>[AV.bs 0 k]) [] ks]⟩),(3,⟨1,.obj [.val (.slice none 0 0)]⟩)]):=by
 (
 refine spec_entry tbOk Tryz.func99 rfl Tryz.ntmps99 Tryz.results99 ?_
 refine gg (k:= ?_)
 exact⟨_,rfl,rfl,rfl,rfl,trivial⟩)
def nextA(ks:List (List UInt8))(beh:List UInt8):AV:=match nextK ks beh with
 | some k=> .tup [.val (.string (strOf (k.drop 16))),.agg (bytesA 16 (k.take 16)),.val (.int .i64 0)]
 | none=> .tup [.val (.string ByteArray.empty),.agg (bytesA 16 []),.val (.int .i64 3)]
theorem nextK_step{ks:List (List UInt8)}{beh:List UInt8}{j:Nat}(h:j<ks.length)(hf:(ltB beh ks[j]&&isVK ks[j])=false):nextK (ks.drop j) beh=nextK (ks.drop (j+1)) beh:=by
 unfold nextK
 rw[List.drop_eq_getElem_cons h,List.find?_cons,hf]
theorem nextK_hit{ks:List (List UInt8)}{beh:List UInt8}{j:Nat}(h:j<ks.length)(hf:(ltB beh ks[j]&&isVK ks[j])=true):nextK (ks.drop j) beh=some ks[j]:=by
 unfold nextK
 rw[List.drop_eq_getElem_cons h,List.find?_cons,hf]
theorem knext_any {W : Int} {n k : Nat} (s : FlS) (c : Nat) {M : List RK} (m : LK s c M) (go : Goes W n k s) (pa : Lies n k 0 c) (pb : Lies n k c c) (ks : List (List UInt8)) (hks : srtK (M.map fun r => r.key) = ks) (hkl : ∀ k ∈ ks, k.length ≤ 140737488355328) (hkn : ks.length ≤ 140737488355328) (g : List UInt8) (vk vs va vb v0 v1 : Nat) : Spec Tryz.prog 45 [.ref 0 vk 1 0 0, .val (.string ByteArray.empty), .agg (bytesA 16 g)] [⟨vk, .obj [.ref 1 vs 3 0 0]⟩, ⟨vs, .obj [.ref 4 v0 6 0 0, .ref 2 va 3 0 0, .ref 3 vb 3 0 0]⟩, ⟨va, .obj [.ref 4 v0 6 0 0, .val (.int .i64 ((0 : Nat) : Int)), .val (.int .i64 (c : Int))]⟩, ⟨vb, .obj [.ref 4 v0 6 0 0, .val (.int .i64 (c : Int)), .val (.int .i64 (c : Int))]⟩, ⟨v0, .obj [.own 5 v1 1 0 s.l.length, .val (.int .i64 (s.k : Int)), .val (.int .i64 s.ar), .val (.int .i64 s.pt), .val (.bool s.dd), .val (.int .i64 s.wr)]⟩, ⟨v1, .bytes s.l⟩]
   (pms (nextA ks []) [⟨vk,.obj [.ref 1 vs 3 0 0]⟩,⟨vs,.obj [.ref 4 v0 6 0 0,.ref 2 va 3 0 0,.ref 3 vb 3 0 0]⟩,⟨va,.obj [.ref 4 v0 6 0 0,.val (.int .i64 ((0:Nat):Int)),.val (.int .i64 (c:Int))]⟩,⟨vb,.obj [.ref 4 v0 6 0 0,.val (.int .i64 (c:Int)),.val (.int .i64 (c:Int))]⟩,⟨v0,.obj [.own 5 v1 1 0 s.l.length,.val (.int .i64 (s.k:Int)),.val (.int .i64 s.ar),.val (.int .i64 s.pt),.val (.bool s.dd),.val (.int .i64 s.wr)]⟩,⟨v1,.bytes s.l⟩] []):=by
 have hK:=keys_map s c m go pa pb vs va vb v0 v1
 rw[hks] at hK
 clear m hks
 refine spec_entryR tbOk Tryz.func45 rfl Tryz.ntmps45 Tryz.results45 60 107 ?_
 refine gg (k:= ?_)
 refine cmks (hK) Tryz.call72 5 [1,2,3,4,5] [0,0,0,0,0] [] ?_
 refine gg (k:= ?_)
 (
 refine cmks (names_nil ks) Tryz.call99 0 [0,0,103,104] [0,0,1,1] [2,3] ?_
 refine gg (k:= ?_)
 (refine sts (k:= ?_))
 conv=>whnf
 refine range_of tbOk (p':=6) (m:=0) 112 0 rfl trivial Tryz.func144 rfl Tryz.ntmps144 Tryz.results144 Tryz.call144 (by kernel_rfl) rfl ?_
 intro i hps0 hasn0 hbody0
 have hI:Go.RowKit.Hid _:=And.intro hps0 (And.intro hasn0 hbody0)
 clear hps0 hasn0 hbody0
 (refine sts (k:= ?_))
 refine gg (k:= ?_)
 (refine sts (k:= ?_))
 conv=>whnf
 refine loop_at (fun j:Nat=>j≤ks.length∧nextK ks []=nextK (ks.drop j) []) (fun j=>ks.length - j) 6 [5,6,7,8,11,12,13,14,15,16,17,18,19,20,21,22,23,24,25,26,27,28,29,30,31,32,33] (fun j=>[(11,.val (.int .i64 (j:Int)))]) (fun j=>[]) 0 ⟨Nat.zero_le _,rfl⟩ ?_ ?_ ?_
 ·exact no_implicit_lambda%ten
 ·exact no_implicit_lambda%hen
 ·rintro j w ⟨j1,j2⟩
  refine glp (k:= ?_)
  refine gg (k:= ?_)
  refine⟨fun h=> ?_,fun h=> ?_⟩
  ·have hlt:j<ks.length:=by have:=of_decide_eq_true h;omega
   obtain⟨key,hkey⟩:∃key,key=ks[j]:=⟨_,rfl⟩
   have hgd:ks.getD (j:Int).toNat []=key:=by rw[hkey,Int.toNat_natCast,List.getD_eq_getElem?_getD,List.getElem?_eq_getElem hlt];rfl
   have hkb:key.length≤140737488355328:=by rw[hkey];exact hkl _ (List.getElem_mem hlt)
   have hst:=nextK_step (beh:=[]) hlt
   have hht:=nextK_hit (beh:=[]) hlt
   rw[←hkey] at hst hht
   refine gg (k:= ?_)
   rw[hgd]
   refine cmks (compare_nil 0 key) Tryz.call117 0 [] [] [] ?_
   have hcl:=cmp_le key []
   cases hq:ltB [] key with
   | false=>
    rw[hq] at hcl hst
    refine gg (k:= ?_)
    rw[hcl]
    refine gg (k:= ?_)
    dsimp only[opsW,thenK,blkK]
    refine back_at (j+1) ⟨hlt,j2.trans (hst rfl)⟩ (by show ks.length - (j+1)<ks.length - j;omega) ?_ ?_
    ·exact no_implicit_lambda%ten
    ·exact no_implicit_lambda%hen
   | true=>
    rw[hq] at hcl
    cases hv:isVK key with
    | false=>
     rw[hq,hv] at hst
     by_cases h16:16≤key.length
     ·have hr:rightN (strOf (key.drop 16))=false:=by unfold isVK at hv;rw[decide_eq_true h16,Bool.true_and] at hv;exact hv
      refine gg (k:= ?_)
      rw[hcl]
      refine gg (k:= ?_)
      refine cdet (split_bad key hkb 0 h16 hr) Tryz.call145 (hX:=rowu) [] ?_
      refine gg (k:= ?_)
      intro _
      refine gg (k:= ?_)
      dsimp only[opsW,thenK,blkK]
      refine back_at (j+1) ⟨hlt,j2.trans (hst rfl)⟩ (by show ks.length - (j+1)<ks.length - j;omega) ?_ ?_
      ·exact no_implicit_lambda%ten
      ·exact no_implicit_lambda%hen
     ·refine gg (k:= ?_)
      rw[hcl]
      refine gg (k:= ?_)
      refine cdet (split_no key hkb 0 (by omega)) Tryz.call145 (hX:=rowu) [] ?_
      refine gg (k:= ?_)
      intro _
      refine gg (k:= ?_)
      dsimp only[opsW,thenK,blkK]
      refine back_at (j+1) ⟨hlt,j2.trans (hst rfl)⟩ (by show ks.length - (j+1)<ks.length - j;omega) ?_ ?_
      ·exact no_implicit_lambda%ten
      ·exact no_implicit_lambda%hen
    | true=>
     rw[hq,hv] at hht
     have hn:=j2.trans (hht rfl)
     obtain⟨h16,hr⟩:16≤key.length∧rightN (strOf (key.drop 16))=true:=by
      unfold isVK at hv
      rw[Bool.and_eq_true] at hv
      exact⟨of_decide_eq_true hv.1,hv.2⟩
     have hy:=split_yes (strOf (key.drop 16)) (by rw[strOf_size,List.length_drop];omega) hr (key.take 16) (by rw[List.length_take];omega) 0
     rw[show key.take 16++(strOf (key.drop 16)).data.toList=key by rw[strOf_data];simp] at hy
     refine gg (k:= ?_)
     rw[hcl]
     refine gg (k:= ?_)
     refine cdet (hy) Tryz.call145 (hX:=rowu) [] ?_
     refine ggO (k:= ?_)
     conv=>whnf
     obtain⟨hps,hasn,hbody⟩:_∧_∧_:=hI
     refine yield_of (args:=[.val (.string (strOf (key.drop 16))),.agg (bytesA 16 (key.take 16))]) tbOk (p:=60) (i:=i) rfl (by rw[hasn];rfl) (by rw[hbody];rfl) (by rw[hps];rfl) ?_
     have hpl:i.ps.toList=[46,47]:=by rw[hps]
     rw[hasn,hbody,hpl]
     clear hpl;clear hps hasn hbody
     dsimp only[putPs,setL]
     refine gg (k:= ?_)
     (refine sts (k:= ?_))
     refine draw_of (p:=60) tbOk hm [0,0,1,7,15] [⟨0,false,false,[]⟩,⟨1,false,false,[15]⟩,⟨2,true,true,[15,49]⟩,⟨3,true,true,[]⟩,⟨4,true,true,[]⟩] (by kernel_rfl) ?_
     refine ggO (k:= ?_)
     refine⟨_,rfl,?_⟩
     refine gg (k:= ?_)
     (refine sts (k:= ?_))
     refine⟨_,leS_refl _,by(repeat' apply And.intro)<;>first | exact trivial | exact Nat.zero_lt_one | exact fun _=>⟨trivial,trivial⟩ | (intro h;cases h;done),by(repeat' apply And.intro)<;>first | exact trivial | exact Nat.zero_lt_one | exact fun _=>⟨trivial,trivial⟩ | (intro h;cases h;done),?_⟩
     refine gg (k:= ?_)
     unfold nextA
     rw[hn]
     exact⟨_,rfl,rfl,trivial⟩
  ·refine gg (k:= ?_)
   have hj:j=ks.length:=by have:=of_decide_eq_false h;omega
   subst hj
   rw[List.drop_length] at j2
   refine⟨_,rfl,?_⟩
   refine gg (k:= ?_)
   (refine sts (k:= ?_))
   refine⟨_,leS_refl _,by(repeat' apply And.intro)<;>first | exact trivial | exact Nat.zero_lt_one | exact fun _=>⟨trivial,trivial⟩ | (intro h;cases h;done),by(repeat' apply And.intro)<;>first | exact trivial | exact Nat.zero_lt_one | exact fun _=>⟨trivial,trivial⟩ | (intro h;cases h;done),?_⟩
   refine gg (k:= ?_)
   unfold nextA
   rw[j2]
   exact⟨_,rfl,rfl,trivial⟩)
theorem knext_vc {W : Int} {n k : Nat} (s : FlS) (c : Nat) {M : List RK} (m : LK s c M) (go : Goes W n k s) (pa : Lies n k 0 c) (pb : Lies n k c c) (ks : List (List UInt8)) (hks : srtK (M.map fun r => r.key) = ks) (hkl : ∀ k ∈ ks, k.length ≤ 140737488355328) (hkn : ks.length ≤ 140737488355328) (nm : ByteArray) (hr0 : rightN nm = true) (g : List UInt8) (hg : g.length = 16) (vk vs va vb v0 v1 : Nat) : Spec Tryz.prog 45 [.ref 0 vk 1 0 0, .val (.string nm), .agg (bytesA 16 g)] [⟨vk, .obj [.ref 1 vs 3 0 0]⟩, ⟨vs, .obj [.ref 4 v0 6 0 0, .ref 2 va 3 0 0, .ref 3 vb 3 0 0]⟩, ⟨va, .obj [.ref 4 v0 6 0 0, .val (.int .i64 ((0 : Nat) : Int)), .val (.int .i64 (c : Int))]⟩, ⟨vb, .obj [.ref 4 v0 6 0 0, .val (.int .i64 (c : Int)), .val (.int .i64 (c : Int))]⟩, ⟨v0, .obj [.own 5 v1 1 0 s.l.length, .val (.int .i64 (s.k : Int)), .val (.int .i64 s.ar), .val (.int .i64 s.pt), .val (.bool s.dd), .val (.int .i64 s.wr)]⟩, ⟨v1, .bytes s.l⟩]
   (pms (nextA ks (keyV nm g)) [⟨vk,.obj [.ref 1 vs 3 0 0]⟩,⟨vs,.obj [.ref 4 v0 6 0 0,.ref 2 va 3 0 0,.ref 3 vb 3 0 0]⟩,⟨va,.obj [.ref 4 v0 6 0 0,.val (.int .i64 ((0:Nat):Int)),.val (.int .i64 (c:Int))]⟩,⟨vb,.obj [.ref 4 v0 6 0 0,.val (.int .i64 (c:Int)),.val (.int .i64 (c:Int))]⟩,⟨v0,.obj [.own 5 v1 1 0 s.l.length,.val (.int .i64 (s.k:Int)),.val (.int .i64 s.ar),.val (.int .i64 s.pt),.val (.bool s.dd),.val (.int .i64 s.wr)]⟩,⟨v1,.bytes s.l⟩] []):=by
 have hz:1≤nm.size∧nm.size≤64:=by
  have:=hr0
  unfold rightN at this
  simp only[Bool.and_eq_true,decide_eq_true_eq] at this
  exact this.2
 have hne:decide (nm.data.toList=[])=false:=decide_eq_false fun e=>by
  have:nm.size=0:=by have:=congrArg List.length e;simpa using this
  omega
 have hKy:=key_frz nm (by omega) g hg hr0
 have hK:=keys_map s c m go pa pb vs va vb v0 v1
 rw[hks] at hK
 clear m hks
 refine spec_entryR tbOk Tryz.func45 rfl Tryz.ntmps45 Tryz.results45 60 107 ?_
 refine gg (k:= ?_)
 rw[hne]
 refine gg (k:= ?_)
 refine cmks (hKy) Tryz.call97 0 [] [] [] ?_
 refine gg (k:= ?_)
 refine cmks (hK) Tryz.call72 5 [1,2,3,4,5] [0,0,0,0,0] [] ?_
 refine gg (k:= ?_)
 generalize keyV nm g=beh
 (
 refine cmks (names_bs ks beh) Tryz.call99 0 [0,0,103,104] [0,0,1,1] [2,3] ?_
 refine gg (k:= ?_)
 (refine sts (k:= ?_))
 conv=>whnf
 refine range_of tbOk (p':=6) (m:=0) 112 0 rfl trivial Tryz.func144 rfl Tryz.ntmps144 Tryz.results144 Tryz.call144 (by kernel_rfl) rfl ?_
 intro i hps0 hasn0 hbody0
 have hI:Go.RowKit.Hid _:=And.intro hps0 (And.intro hasn0 hbody0)
 clear hps0 hasn0 hbody0
 (refine sts (k:= ?_))
 refine gg (k:= ?_)
 (refine sts (k:= ?_))
 conv=>whnf
 refine loop_at (fun j:Nat=>j≤ks.length∧nextK ks beh=nextK (ks.drop j) beh) (fun j=>ks.length - j) 6 [5,6,7,8,11,12,13,14,15,16,17,18,19,20,21,22,23,24,25,26,27,28,29,30,31,32,33] (fun j=>[(11,.val (.int .i64 (j:Int)))]) (fun j=>[]) 0 ⟨Nat.zero_le _,rfl⟩ ?_ ?_ ?_
 ·exact no_implicit_lambda%ten
 ·exact no_implicit_lambda%hen
 ·rintro j w ⟨j1,j2⟩
  refine glp (k:= ?_)
  refine gg (k:= ?_)
  refine⟨fun h=> ?_,fun h=> ?_⟩
  ·have hlt:j<ks.length:=by have:=of_decide_eq_true h;omega
   obtain⟨key,hkey⟩:∃key,key=ks[j]:=⟨_,rfl⟩
   have hgd:ks.getD (j:Int).toNat []=key:=by rw[hkey,Int.toNat_natCast,List.getD_eq_getElem?_getD,List.getElem?_eq_getElem hlt];rfl
   have hkb:key.length≤140737488355328:=by rw[hkey];exact hkl _ (List.getElem_mem hlt)
   have hst:=nextK_step (beh:=beh) hlt
   have hht:=nextK_hit (beh:=beh) hlt
   rw[←hkey] at hst hht
   refine gg (k:= ?_)
   rw[hgd]
   refine cmks (compare_vc 0 0 key beh) Tryz.call117 0 [] [] [] ?_
   have hcl:=cmp_le key beh
   cases hq:ltB beh key with
   | false=>
    rw[hq] at hcl hst
    refine gg (k:= ?_)
    rw[hcl]
    refine gg (k:= ?_)
    dsimp only[opsW,thenK,blkK]
    refine back_at (j+1) ⟨hlt,j2.trans (hst rfl)⟩ (by show ks.length - (j+1)<ks.length - j;omega) ?_ ?_
    ·exact no_implicit_lambda%ten
    ·exact no_implicit_lambda%hen
   | true=>
    rw[hq] at hcl
    cases hv:isVK key with
    | false=>
     rw[hq,hv] at hst
     by_cases h16:16≤key.length
     ·have hr:rightN (strOf (key.drop 16))=false:=by unfold isVK at hv;rw[decide_eq_true h16,Bool.true_and] at hv;exact hv
      refine gg (k:= ?_)
      rw[hcl]
      refine gg (k:= ?_)
      refine cdet (split_bad key hkb 0 h16 hr) Tryz.call145 (hX:=rowu) [] ?_
      refine gg (k:= ?_)
      intro _
      refine gg (k:= ?_)
      dsimp only[opsW,thenK,blkK]
      refine back_at (j+1) ⟨hlt,j2.trans (hst rfl)⟩ (by show ks.length - (j+1)<ks.length - j;omega) ?_ ?_
      ·exact no_implicit_lambda%ten
      ·exact no_implicit_lambda%hen
     ·refine gg (k:= ?_)
      rw[hcl]
      refine gg (k:= ?_)
      refine cdet (split_no key hkb 0 (by omega)) Tryz.call145 (hX:=rowu) [] ?_
      refine gg (k:= ?_)
      intro _
      refine gg (k:= ?_)
      dsimp only[opsW,thenK,blkK]
      refine back_at (j+1) ⟨hlt,j2.trans (hst rfl)⟩ (by show ks.length - (j+1)<ks.length - j;omega) ?_ ?_
      ·exact no_implicit_lambda%ten
      ·exact no_implicit_lambda%hen
    | true=>
     rw[hq,hv] at hht
     have hn:=j2.trans (hht rfl)
     obtain⟨h16,hr⟩:16≤key.length∧rightN (strOf (key.drop 16))=true:=by
      unfold isVK at hv
      rw[Bool.and_eq_true] at hv
      exact⟨of_decide_eq_true hv.1,hv.2⟩
     have hy:=split_yes (strOf (key.drop 16)) (by rw[strOf_size,List.length_drop];omega) hr (key.take 16) (by rw[List.length_take];omega) 0
     rw[show key.take 16++(strOf (key.drop 16)).data.toList=key by rw[strOf_data];simp] at hy
     refine gg (k:= ?_)
     rw[hcl]
     refine gg (k:= ?_)
     refine cdet (hy) Tryz.call145 (hX:=rowu) [] ?_
     refine ggO (k:= ?_)
     conv=>whnf
     obtain⟨hps,hasn,hbody⟩:_∧_∧_:=hI
     refine yield_of (args:=[.val (.string (strOf (key.drop 16))),.agg (bytesA 16 (key.take 16))]) tbOk (p:=60) (i:=i) rfl (by rw[hasn];rfl) (by rw[hbody];rfl) (by rw[hps];rfl) ?_
     have hpl:i.ps.toList=[46,47]:=by rw[hps]
     rw[hasn,hbody,hpl]
     clear hpl;clear hps hasn hbody
     dsimp only[putPs,setL]
     refine gg (k:= ?_)
     (refine sts (k:= ?_))
     refine draw_of (p:=60) tbOk hm [0,0,1,7,15] [⟨0,false,false,[]⟩,⟨1,false,false,[15]⟩,⟨2,true,true,[15,49]⟩,⟨3,true,true,[]⟩,⟨4,true,true,[]⟩] (by kernel_rfl) ?_
     refine ggO (k:= ?_)
     refine⟨_,rfl,?_⟩
     refine gg (k:= ?_)
     (refine sts (k:= ?_))
     refine⟨_,leS_refl _,by(repeat' apply And.intro)<;>first | exact trivial | exact Nat.zero_lt_one | exact fun _=>⟨trivial,trivial⟩ | (intro h;cases h;done),by(repeat' apply And.intro)<;>first | exact trivial | exact Nat.zero_lt_one | exact fun _=>⟨trivial,trivial⟩ | (intro h;cases h;done),?_⟩
     refine gg (k:= ?_)
     unfold nextA
     rw[hn]
     exact⟨_,rfl,rfl,trivial⟩
  ·refine gg (k:= ?_)
   have hj:j=ks.length:=by have:=of_decide_eq_false h;omega
   subst hj
   rw[List.drop_length] at j2
   refine⟨_,rfl,?_⟩
   refine gg (k:= ?_)
   (refine sts (k:= ?_))
   refine⟨_,leS_refl _,by(repeat' apply And.intro)<;>first | exact trivial | exact Nat.zero_lt_one | exact fun _=>⟨trivial,trivial⟩ | (intro h;cases h;done),by(repeat' apply And.intro)<;>first | exact trivial | exact Nat.zero_lt_one | exact fun _=>⟨trivial,trivial⟩ | (intro h;cases h;done),?_⟩
   refine gg (k:= ?_)
   unfold nextA
   rw[j2]
   exact⟨_,rfl,rfl,trivial⟩)
theorem knext_bad (s : FlS) (c : Nat) (nm : ByteArray) (hn : nm.size ≤ 140737488355328) (hr0 : rightN nm = false) (hne : decide (nm.data.toList = []) = false) (g : List UInt8) (vk vs va vb v0 v1 : Nat) : Spec Tryz.prog 45 [.ref 0 vk 1 0 0, .val (.string nm), .agg (bytesA 16 g)] [⟨vk, .obj [.ref 1 vs 3 0 0]⟩, ⟨vs, .obj [.ref 4 v0 6 0 0, .ref 2 va 3 0 0, .ref 3 vb 3 0 0]⟩, ⟨va, .obj [.ref 4 v0 6 0 0, .val (.int .i64 ((0 : Nat) : Int)), .val (.int .i64 (c : Int))]⟩, ⟨vb, .obj [.ref 4 v0 6 0 0, .val (.int .i64 (c : Int)), .val (.int .i64 (c : Int))]⟩, ⟨v0, .obj [.own 5 v1 1 0 s.l.length, .val (.int .i64 (s.k : Int)), .val (.int .i64 s.ar), .val (.int .i64 s.pt), .val (.bool s.dd), .val (.int .i64 s.wr)]⟩, ⟨v1, .bytes s.l⟩]
   (pms (.tup [.val (.string ByteArray.empty),.agg (bytesA 16 []),.val (.int .i64 1)]) [⟨vk,.obj [.ref 1 vs 3 0 0]⟩,⟨vs,.obj [.ref 4 v0 6 0 0,.ref 2 va 3 0 0,.ref 3 vb 3 0 0]⟩,⟨va,.obj [.ref 4 v0 6 0 0,.val (.int .i64 ((0:Nat):Int)),.val (.int .i64 (c:Int))]⟩,⟨vb,.obj [.ref 4 v0 6 0 0,.val (.int .i64 (c:Int)),.val (.int .i64 (c:Int))]⟩,⟨v0,.obj [.own 5 v1 1 0 s.l.length,.val (.int .i64 (s.k:Int)),.val (.int .i64 s.ar),.val (.int .i64 s.pt),.val (.bool s.dd),.val (.int .i64 s.wr)]⟩,⟨v1,.bytes s.l⟩] []):=by
 have hKy:=key_no nm hn g hr0
 refine spec_entryR tbOk Tryz.func45 rfl Tryz.ntmps45 Tryz.results45 60 107 ?_
 refine gg (k:= ?_)
 rw[hne]
 refine gg (k:= ?_)
 refine cdet (hKy) Tryz.call97 (hon:=rowu) [] ?_
 refine gg (k:= ?_)
 (refine sts (k:= ?_))
 refine⟨_,leS_refl _,by(repeat' apply And.intro)<;>first | exact trivial | exact Nat.zero_lt_one | exact fun _=>⟨trivial,trivial⟩ | (intro h;cases h;done),by(repeat' apply And.intro)<;>first | exact trivial | exact Nat.zero_lt_one | exact fun _=>⟨trivial,trivial⟩ | (intro h;cases h;done),?_⟩
 refine gg (k:= ?_)
 exact⟨_,rfl,rfl,trivial⟩
end Go.Proofs.YtpbpiehcchannaaGreatDoor
