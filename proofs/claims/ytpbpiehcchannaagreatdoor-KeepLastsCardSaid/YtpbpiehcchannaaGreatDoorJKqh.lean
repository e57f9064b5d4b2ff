/- Walks of lintellaw21: does. Walks of lintellaw21: does (more kinds). Walks of lintellaw21: does, with a flash. What is done with a book whose store is a map of variables. Conditions: the premises of each law. -/
import Derived.Test.YtpbpiehcchannaaGreatDoorJKo2
namespace Go.Proofs.YtpbpiehcchannaaGreatDoor
set_option linter.unusedVariables false
set_option linter.unusedSimpArgs false
set_option maxRecDepth 100000
set_option maxHeartbeats 1500000
open Go.RowKit
def fK(s:U)(nm:ByteArray)(g:List UInt8):Int×U:=if bM nm=true then s.del 1 (aO nm g) else(1,s)
theorem SE {W : Int} {n k : Nat} (s : U) (go : aw W n k s) (hW : W ≤ 1000000000000000) (pa : aA n k 0 1) (pb : aA n k 1 1) (nm : ByteArray) (hn : nm.size ≤ 140737488355328) (g : List UInt8) (hg : g.length = 16) (vk vs va vb v0 v1 : Nat) : Spec Tryz.prog 60 [.ref 0 vk 1 0 0, .val (.string nm), .agg (bC 16 g)] [⟨vk, .obj [.ref 1 vs 3 0 0]⟩, ⟨vs, .obj [.ref 4 v0 6 0 0, .ref 2 va 3 0 0, .ref 3 vb 3 0 0]⟩, ⟨va, .obj [.ref 4 v0 6 0 0, .val (.int .i64 ((0 : Nat) : Int)), .val (.int .i64 (1 : Int))]⟩, ⟨vb, .obj [.ref 4 v0 6 0 0, .val (.int .i64 (1 : Int)), .val (.int .i64 (1 : Int))]⟩, ⟨v0, .obj [.own 5 v1 1 0 s.l.length, .val (.int .i64 (s.k : Int)), .val (.int .i64 s.ar), .val (.int .i64 s.pt), .val (.bool s.dd), .val (.int .i64 s.wr)]⟩, ⟨v1, .bytes s.l⟩]
   (ak (.val (.int .i64 (fK s nm g).1)) [⟨vk,.obj [.ref 1 vs 3 0 0]⟩,⟨vs,.obj [.ref 4 v0 6 0 0,.ref 2 va 3 0 0,.ref 3 vb 3 0 0]⟩,⟨va,.obj [.ref 4 v0 6 0 0,.val (.int .i64 ((0:Nat):Int)),.val (.int .i64 (1:Int))]⟩,⟨vb,.obj [.ref 4 v0 6 0 0,.val (.int .i64 (1:Int)),.val (.int .i64 (1:Int))]⟩,⟨v0,.obj [.own 5 v1 1 0 (fK s nm g).2.l.length,.val (.int .i64 ((fK s nm g).2.k:Int)),.val (.int .i64 (fK s nm g).2.ar),.val (.int .i64 (fK s nm g).2.pt),.val (.bool (fK s nm g).2.dd),.val (.int .i64 (fK s nm g).2.wr)]⟩,⟨v1,.bytes (fK s nm g).2.l⟩] []):=by
 cases h:bM nm with
 | true=>
  rw[show fK s nm g=s.del 1 (aO nm g) from if_pos h]
  exact QY s 1 go hW pa pb nm g hg h vk vs va vb v0 v1
 | false=>
  rw[show fK s nm g=(1,s) from if_neg (by rw[h];simp)]
  exact QZ s 1 nm hn g h vk vs va vb v0 v1
theorem SF{W:Int}{n k:Nat}(s:U)(go:aw W n k s)(hW:W≤1000000000000000)(pa:aA n k 0 1)(pb:aA n k 1 1)(hd:s.dd=false)(o:du)(ho:o.Ok)(hK:o.K=1)(vk vs va vb v0 v1:Nat):Spec Tryz.prog 48 [.ref 4 v0 6 0 0,.ref 0 vk 1 0 0,.agg (bY o)] [⟨vk,.obj [.ref 1 vs 3 0 0]⟩,⟨vs,.obj [.ref 4 v0 6 0 0,.ref 2 va 3 0 0,.ref 3 vb 3 0 0]⟩,⟨va,.obj [.ref 4 v0 6 0 0,.val (.int .i64 ((0:Nat):Int)),.val (.int .i64 (1:Int))]⟩,⟨vb,.obj [.ref 4 v0 6 0 0,.val (.int .i64 (1:Int)),.val (.int .i64 (1:Int))]⟩,⟨v0,.obj [.own 5 v1 1 0 s.l.length,.val (.int .i64 (s.k:Int)),.val (.int .i64 s.ar),.val (.int .i64 s.pt),.val (.bool s.dd),.val (.int .i64 s.wr)]⟩,⟨v1,.bytes s.l⟩] (ak (.aD [.agg (fC (.val (.slice none 0 0)) aK 0 true (dq s o.v).1),.ref 0 vk 1 0 0]) [⟨vk,.obj [.ref 1 vs 3 0 0]⟩,⟨vs,.obj [.ref 4 v0 6 0 0,.ref 2 va 3 0 0,.ref 3 vb 3 0 0]⟩,⟨va,.obj [.ref 4 v0 6 0 0,.val (.int .i64 ((0:Nat):Int)),.val (.int .i64 (1:Int))]⟩,⟨vb,.obj [.ref 4 v0 6 0 0,.val (.int .i64 (1:Int)),.val (.int .i64 (1:Int))]⟩,⟨v0,.obj [.own 5 v1 1 0 (dq s o.v).2.l.length,.val (.int .i64 ((dq s o.v).2.k:Int)),.val (.int .i64 (dq s o.v).2.ar),.val (.int .i64 (dq s o.v).2.pt),.val (.bool (dq s o.v).2.dd),.val (.int .i64 (dq s o.v).2.wr)]⟩,⟨v1,.bytes (dq s o.v).2.l⟩] []):=by
 (
 obtain⟨K,u,x⟩:=o
 have hu:=ho.v
 have hx:=ho.x
 simp only at hu hx hK
 have fk:=hu.d
 refine ax ai Tryz.func48 rfl Tryz.ntmps48 Tryz.results48 ?_
 unfold bY aV
 simp only[List.cons_append,List.nil_append]
 refine gg ?_
 refine af (lU 0 u.d fk) Tryz.call96 0 [0,0,0,30] [0,0,0,1] [3] ?_
 refine gg ?_)
 subst hK
 refine af (Q9 s go hW pa pb hd u hu u.d.length rfl vk vs va vb v0 v1 3) Tryz.call59 (hon:=⟨(by decide:0<7),nI (x:= .own 6 3 1 0 u.d.length) (P:=(· <7)) (show 6<7 by decide) _,trivial⟩) 7 [0,1,2,3,4,5,30] [0,0,0,0,0,0,0] [] ?_
 refine gg ?_
 (refine aH ?_)
 conv=>whnf
 refine cE (fun y:Nat×List UInt8=>y.1≤u.d.length∧y.2.length=u.d.length) (fun y=>u.d.length - y.1) 6 [14,75,76,77,78,79,80,81,82,83,84,85] (fun y=>[(14,.val (.int .i64 (y.1:Int)))]) (fun y=>[(30,⟨3,.bytes y.2⟩)]) (0,u.d) ⟨Nat.zero_le _,rfl⟩ ?_ ?_ ?_
 ·exact no_implicit_lambda%ten
 ·exact no_implicit_lambda%b6
 ·rintro⟨i,w⟩ z ⟨u1,u2⟩
  simp only at u1 u2
  refine cF ?_
  refine gg ?_
  refine⟨fun h=> ?_,fun h=> ?_⟩
  ·have ah:i<u.d.length:=by have:=of_decide_eq_true h;omega
   refine gg ?_
   exact bk (i+1,w.set (0+(i:Int).toNat) (UInt8.ofNat (Int.toNat 85))) ⟨ah,by simp[u2]⟩ (by show u.d.length - (i+1)<u.d.length - i;omega)
  ·refine gg ?_
   rw[show decide ((strOf ((u.d.drop 0).take u.d.length)).data.toList=(strOf u.d).data.toList)=true from decide_eq_true (by rw[whole u.d])]
   exact⟨_,rfl,rfl,trivial⟩
theorem SG{W:Int}{n k:Nat}(s:U)(go:aw W n k s)(hW:W≤1000000000000000)(pa:aA n k 0 1)(pb:aA n k 1 1)(o:du)(ho:o.Ok)(hK:o.K=2)(vk vs va vb v0 v1:Nat):Spec Tryz.prog 48 [.ref 4 v0 6 0 0,.ref 0 vk 1 0 0,.agg (bY o)] [⟨vk,.obj [.ref 1 vs 3 0 0]⟩,⟨vs,.obj [.ref 4 v0 6 0 0,.ref 2 va 3 0 0,.ref 3 vb 3 0 0]⟩,⟨va,.obj [.ref 4 v0 6 0 0,.val (.int .i64 ((0:Nat):Int)),.val (.int .i64 (1:Int))]⟩,⟨vb,.obj [.ref 4 v0 6 0 0,.val (.int .i64 (1:Int)),.val (.int .i64 (1:Int))]⟩,⟨v0,.obj [.own 5 v1 1 0 s.l.length,.val (.int .i64 (s.k:Int)),.val (.int .i64 s.ar),.val (.int .i64 s.pt),.val (.bool s.dd),.val (.int .i64 s.wr)]⟩,⟨v1,.bytes s.l⟩] (ak (.aD [.agg (fC (.val (.slice none 0 0)) aK 0 false (fK s o.v.nm o.v.g).1),.ref 0 vk 1 0 0]) [⟨vk,.obj [.ref 1 vs 3 0 0]⟩,⟨vs,.obj [.ref 4 v0 6 0 0,.ref 2 va 3 0 0,.ref 3 vb 3 0 0]⟩,⟨va,.obj [.ref 4 v0 6 0 0,.val (.int .i64 ((0:Nat):Int)),.val (.int .i64 (1:Int))]⟩,⟨vb,.obj [.ref 4 v0 6 0 0,.val (.int .i64 (1:Int)),.val (.int .i64 (1:Int))]⟩,⟨v0,.obj [.own 5 v1 1 0 (fK s o.v.nm o.v.g).2.l.length,.val (.int .i64 ((fK s o.v.nm o.v.g).2.k:Int)),.val (.int .i64 (fK s o.v.nm o.v.g).2.ar),.val (.int .i64 (fK s o.v.nm o.v.g).2.pt),.val (.bool (fK s o.v.nm o.v.g).2.dd),.val (.int .i64 (fK s o.v.nm o.v.g).2.wr)]⟩,⟨v1,.bytes (fK s o.v.nm o.v.g).2.l⟩] []):=by
 (
 obtain⟨K,u,x⟩:=o
 have hu:=ho.v
 have hx:=ho.x
 simp only at hu hx hK
 have fk:=hu.d
 refine ax ai Tryz.func48 rfl Tryz.ntmps48 Tryz.results48 ?_
 unfold bY aV
 simp only[List.cons_append,List.nil_append]
 refine gg ?_
 refine af (lU 0 u.d fk) Tryz.call96 0 [0,0,0,30] [0,0,0,1] [3] ?_
 refine gg ?_)
 subst hK
 refine gg ?_
 refine af (SE s go hW pa pb u.nm hu.nm u.g hu.g vk vs va vb v0 v1) Tryz.call60 (hon:=cH) 6 [0,1,2,3,4,5] [0,0,0,0,0,0] [] ?_
 refine gg ?_
 exact⟨_,rfl,rfl,trivial⟩
theorem SH(s:U)(o:du)(ho:o.Ok)(hK:o.K=3)(vk vs va vb v0 v1:Nat)(a:ByteArray)(b:List UInt8)(e:Int)(hN:Spec Tryz.prog 45 [.ref 0 vk 1 0 0,.val (.string o.v.nm),.agg (bC 16 o.v.g)] [⟨vk,.obj [.ref 1 vs 3 0 0]⟩,⟨vs,.obj [.ref 4 v0 6 0 0,.ref 2 va 3 0 0,.ref 3 vb 3 0 0]⟩,⟨va,.obj [.ref 4 v0 6 0 0,.val (.int .i64 ((0:Nat):Int)),.val (.int .i64 (1:Int))]⟩,⟨vb,.obj [.ref 4 v0 6 0 0,.val (.int .i64 (1:Int)),.val (.int .i64 (1:Int))]⟩,⟨v0,.obj [.own 5 v1 1 0 s.l.length,.val (.int .i64 (s.k:Int)),.val (.int .i64 s.ar),.val (.int .i64 s.pt),.val (.bool s.dd),.val (.int .i64 s.wr)]⟩,⟨v1,.bytes s.l⟩] (ak (.aD [.val (.string a),.agg (bC 16 b),.val (.int .i64 e)]) [⟨vk,.obj [.ref 1 vs 3 0 0]⟩,⟨vs,.obj [.ref 4 v0 6 0 0,.ref 2 va 3 0 0,.ref 3 vb 3 0 0]⟩,⟨va,.obj [.ref 4 v0 6 0 0,.val (.int .i64 ((0:Nat):Int)),.val (.int .i64 (1:Int))]⟩,⟨vb,.obj [.ref 4 v0 6 0 0,.val (.int .i64 (1:Int)),.val (.int .i64 (1:Int))]⟩,⟨v0,.obj [.own 5 v1 1 0 s.l.length,.val (.int .i64 (s.k:Int)),.val (.int .i64 s.ar),.val (.int .i64 s.pt),.val (.bool s.dd),.val (.int .i64 s.wr)]⟩,⟨v1,.bytes s.l⟩] [])):Spec Tryz.prog 48 [.ref 4 v0 6 0 0,.ref 0 vk 1 0 0,.agg (bY o)] [⟨vk,.obj [.ref 1 vs 3 0 0]⟩,⟨vs,.obj [.ref 4 v0 6 0 0,.ref 2 va 3 0 0,.ref 3 vb 3 0 0]⟩,⟨va,.obj [.ref 4 v0 6 0 0,.val (.int .i64 ((0:Nat):Int)),.val (.int .i64 (1:Int))]⟩,⟨vb,.obj [.ref 4 v0 6 0 0,.val (.int .i64 (1:Int)),.val (.int .i64 (1:Int))]⟩,⟨v0,.obj [.own 5 v1 1 0 s.l.length,.val (.int .i64 (s.k:Int)),.val (.int .i64 s.ar),.val (.int .i64 s.pt),.val (.bool s.dd),.val (.int .i64 s.wr)]⟩,⟨v1,.bytes s.l⟩] (ak (.aD [.agg (fC (.val (.slice none 0 0)) ⟨a,b,0,⟨0,0,0,0,0,0⟩,List.replicate 32 0,[]⟩ 0 false e),.ref 0 vk 1 0 0]) [⟨vk,.obj [.ref 1 vs 3 0 0]⟩,⟨vs,.obj [.ref 4 v0 6 0 0,.ref 2 va 3 0 0,.ref 3 vb 3 0 0]⟩,⟨va,.obj [.ref 4 v0 6 0 0,.val (.int .i64 ((0:Nat):Int)),.val (.int .i64 (1:Int))]⟩,⟨vb,.obj [.ref 4 v0 6 0 0,.val (.int .i64 (1:Int)),.val (.int .i64 (1:Int))]⟩,⟨v0,.obj [.own 5 v1 1 0 s.l.length,.val (.int .i64 (s.k:Int)),.val (.int .i64 s.ar),.val (.int .i64 s.pt),.val (.bool s.dd),.val (.int .i64 s.wr)]⟩,⟨v1,.bytes s.l⟩] []):=by
 (
 obtain⟨K,u,x⟩:=o
 have hu:=ho.v
 have hx:=ho.x
 simp only at hu hx hK
 have fk:=hu.d
 refine ax ai Tryz.func48 rfl Tryz.ntmps48 Tryz.results48 ?_
 unfold bY aV
 simp only[List.cons_append,List.nil_append]
 refine gg ?_
 refine af (lU 0 u.d fk) Tryz.call96 0 [0,0,0,30] [0,0,0,1] [3] ?_
 refine gg ?_)
 subst hK
 refine gg ?_
 refine af (hN) Tryz.call45 (hon:=cH) (hX:=cH) 6 [0,1,2,3,4,5] [0,0,0,0,0,0] [] ?_
 refine gg ?_
 exact⟨_,rfl,rfl,trivial⟩
theorem SI(s:U)(o:du)(ho:o.Ok)(hK:o.K=4)(vk vs va vb v0 v1:Nat)(m:Int)(hm:0≤m∧m≤255)(hM:Spec Tryz.prog 47 [.ref 0 vk 1 0 0] [⟨vk,.obj [.ref 1 vs 3 0 0]⟩,⟨vs,.obj [.ref 4 v0 6 0 0,.ref 2 va 3 0 0,.ref 3 vb 3 0 0]⟩,⟨va,.obj [.ref 4 v0 6 0 0,.val (.int .i64 ((0:Nat):Int)),.val (.int .i64 (1:Int))]⟩,⟨vb,.obj [.ref 4 v0 6 0 0,.val (.int .i64 (1:Int)),.val (.int .i64 (1:Int))]⟩,⟨v0,.obj [.own 5 v1 1 0 s.l.length,.val (.int .i64 (s.k:Int)),.val (.int .i64 s.ar),.val (.int .i64 s.pt),.val (.bool s.dd),.val (.int .i64 s.wr)]⟩,⟨v1,.bytes s.l⟩] (ak (.aD [.val (.int .u8 m),.val (.int .i64 0)]) [⟨vk,.obj [.ref 1 vs 3 0 0]⟩,⟨vs,.obj [.ref 4 v0 6 0 0,.ref 2 va 3 0 0,.ref 3 vb 3 0 0]⟩,⟨va,.obj [.ref 4 v0 6 0 0,.val (.int .i64 ((0:Nat):Int)),.val (.int .i64 (1:Int))]⟩,⟨vb,.obj [.ref 4 v0 6 0 0,.val (.int .i64 (1:Int)),.val (.int .i64 (1:Int))]⟩,⟨v0,.obj [.own 5 v1 1 0 s.l.length,.val (.int .i64 (s.k:Int)),.val (.int .i64 s.ar),.val (.int .i64 s.pt),.val (.bool s.dd),.val (.int .i64 s.wr)]⟩,⟨v1,.bytes s.l⟩] [])):Spec Tryz.prog 48 [.ref 4 v0 6 0 0,.ref 0 vk 1 0 0,.agg (bY o)] [⟨vk,.obj [.ref 1 vs 3 0 0]⟩,⟨vs,.obj [.ref 4 v0 6 0 0,.ref 2 va 3 0 0,.ref 3 vb 3 0 0]⟩,⟨va,.obj [.ref 4 v0 6 0 0,.val (.int .i64 ((0:Nat):Int)),.val (.int .i64 (1:Int))]⟩,⟨vb,.obj [.ref 4 v0 6 0 0,.val (.int .i64 (1:Int)),.val (.int .i64 (1:Int))]⟩,⟨v0,.obj [.own 5 v1 1 0 s.l.length,.val (.int .i64 (s.k:Int)),.val (.int .i64 s.ar),.val (.int .i64 s.pt),.val (.bool s.dd),.val (.int .i64 s.wr)]⟩,⟨v1,.bytes s.l⟩] (ak (.aD [.agg (fC (.val (.slice none 0 0)) aK m false 0),.ref 0 vk 1 0 0]) [⟨vk,.obj [.ref 1 vs 3 0 0]⟩,⟨vs,.obj [.ref 4 v0 6 0 0,.ref 2 va 3 0 0,.ref 3 vb 3 0 0]⟩,⟨va,.obj [.ref 4 v0 6 0 0,.val (.int .i64 ((0:Nat):Int)),.val (.int .i64 (1:Int))]⟩,⟨vb,.obj [.ref 4 v0 6 0 0,.val (.int .i64 (1:Int)),.val (.int .i64 (1:Int))]⟩,⟨v0,.obj [.own 5 v1 1 0 s.l.length,.val (.int .i64 (s.k:Int)),.val (.int .i64 s.ar),.val (.int .i64 s.pt),.val (.bool s.dd),.val (.int .i64 s.wr)]⟩,⟨v1,.bytes s.l⟩] []):=by
 (
 obtain⟨K,u,x⟩:=o
 have hu:=ho.v
 have hx:=ho.x
 simp only at hu hx hK
 have fk:=hu.d
 refine ax ai Tryz.func48 rfl Tryz.ntmps48 Tryz.results48 ?_
 unfold bY aV
 simp only[List.cons_append,List.nil_append]
 refine gg ?_
 refine af (lU 0 u.d fk) Tryz.call96 0 [0,0,0,30] [0,0,0,1] [3] ?_
 refine gg ?_)
 subst hK
 refine gg ?_
 refine af (hM) Tryz.call47 6 [0,1,2,3,4,5] [0,0,0,0,0,0] [] ?_
 refine gg ?_
 exact⟨_,rfl,rfl,trivial⟩
theorem SJ{W:Int}{n k:Nat}(s:U)(go:aw W n k s)(hW:W≤1000000000000000)(pa:aA n k 0 1)(pb:aA n k 1 1)(hd:s.dd=false)(o:du)(ho:o.Ok)(hK:o.K=5)(vk vs va vb v0 v1:Nat):Spec Tryz.prog 48 [.ref 4 v0 6 0 0,.ref 0 vk 1 0 0,.agg (bY o)] [⟨vk,.obj [.ref 1 vs 3 0 0]⟩,⟨vs,.obj [.ref 4 v0 6 0 0,.ref 2 va 3 0 0,.ref 3 vb 3 0 0]⟩,⟨va,.obj [.ref 4 v0 6 0 0,.val (.int .i64 ((0:Nat):Int)),.val (.int .i64 (1:Int))]⟩,⟨vb,.obj [.ref 4 v0 6 0 0,.val (.int .i64 (1:Int)),.val (.int .i64 (1:Int))]⟩,⟨v0,.obj [.own 5 v1 1 0 s.l.length,.val (.int .i64 (s.k:Int)),.val (.int .i64 s.ar),.val (.int .i64 s.pt),.val (.bool s.dd),.val (.int .i64 s.wr)]⟩,⟨v1,.bytes s.l⟩] (ak (.aD [.agg (fC (.val (.slice none 0 0)) aK 0 false (s.set 1 bQ [u8 o.x]).1),.ref 0 vk 1 0 0]) [⟨vk,.obj [.ref 1 vs 3 0 0]⟩,⟨vs,.obj [.ref 4 v0 6 0 0,.ref 2 va 3 0 0,.ref 3 vb 3 0 0]⟩,⟨va,.obj [.ref 4 v0 6 0 0,.val (.int .i64 ((0:Nat):Int)),.val (.int .i64 (1:Int))]⟩,⟨vb,.obj [.ref 4 v0 6 0 0,.val (.int .i64 (1:Int)),.val (.int .i64 (1:Int))]⟩,⟨v0,.obj [.own 5 v1 1 0 (s.set 1 bQ [u8 o.x]).2.l.length,.val (.int .i64 ((s.set 1 bQ [u8 o.x]).2.k:Int)),.val (.int .i64 (s.set 1 bQ [u8 o.x]).2.ar),.val (.int .i64 (s.set 1 bQ [u8 o.x]).2.pt),.val (.bool (s.set 1 bQ [u8 o.x]).2.dd),.val (.int .i64 (s.set 1 bQ [u8 o.x]).2.wr)]⟩,⟨v1,.bytes (s.set 1 bQ [u8 o.x]).2.l⟩] []):=by
 (
 obtain⟨K,u,x⟩:=o
 have hu:=ho.v
 have hx:=ho.x
 simp only at hu hx hK
 have fk:=hu.d
 refine ax ai Tryz.func48 rfl Tryz.ntmps48 Tryz.results48 ?_
 unfold bY aV
 simp only[List.cons_append,List.nil_append]
 refine gg ?_
 refine af (lU 0 u.d fk) Tryz.call96 0 [0,0,0,30] [0,0,0,1] [3] ?_
 refine gg ?_)
 subst hK
 refine gg ?_
 refine af (Q0 s 1 go hW pa pb hd x hx vk vs va vb v0 v1) Tryz.call61 6 [0,1,2,3,4,5] [0,0,0,0,0,0] [] ?_
 refine gg ?_
 exact⟨_,rfl,rfl,trivial⟩
theorem SK(s:U)(o:du)(ho:o.Ok)(hK:¬(0≤o.K∧o.K≤6))(vk vs va vb v0 v1:Nat):Spec Tryz.prog 48 [.ref 4 v0 6 0 0,.ref 0 vk 1 0 0,.agg (bY o)] [⟨vk,.obj [.ref 1 vs 3 0 0]⟩,⟨vs,.obj [.ref 4 v0 6 0 0,.ref 2 va 3 0 0,.ref 3 vb 3 0 0]⟩,⟨va,.obj [.ref 4 v0 6 0 0,.val (.int .i64 ((0:Nat):Int)),.val (.int .i64 (1:Int))]⟩,⟨vb,.obj [.ref 4 v0 6 0 0,.val (.int .i64 (1:Int)),.val (.int .i64 (1:Int))]⟩,⟨v0,.obj [.own 5 v1 1 0 s.l.length,.val (.int .i64 (s.k:Int)),.val (.int .i64 s.ar),.val (.int .i64 s.pt),.val (.bool s.dd),.val (.int .i64 s.wr)]⟩,⟨v1,.bytes s.l⟩] (ak (.aD [.agg (fC (.val (.slice none 0 0)) aK 0 false 0),.ref 0 vk 1 0 0]) [⟨vk,.obj [.ref 1 vs 3 0 0]⟩,⟨vs,.obj [.ref 4 v0 6 0 0,.ref 2 va 3 0 0,.ref 3 vb 3 0 0]⟩,⟨va,.obj [.ref 4 v0 6 0 0,.val (.int .i64 ((0:Nat):Int)),.val (.int .i64 (1:Int))]⟩,⟨vb,.obj [.ref 4 v0 6 0 0,.val (.int .i64 (1:Int)),.val (.int .i64 (1:Int))]⟩,⟨v0,.obj [.own 5 v1 1 0 s.l.length,.val (.int .i64 (s.k:Int)),.val (.int .i64 s.ar),.val (.int .i64 s.pt),.val (.bool s.dd),.val (.int .i64 s.wr)]⟩,⟨v1,.bytes s.l⟩] []):=by
 (
 obtain⟨K,u,x⟩:=o
 have hu:=ho.v
 have hx:=ho.x
 simp only at hu hx hK
 have fk:=hu.d
 refine ax ai Tryz.func48 rfl Tryz.ntmps48 Tryz.results48 ?_
 unfold bY aV
 simp only[List.cons_append,List.nil_append]
 refine gg ?_
 refine af (lU 0 u.d fk) Tryz.call96 0 [0,0,0,30] [0,0,0,1] [3] ?_
 refine gg ?_)
 exact⟨_,rfl,rfl,trivial⟩
theorem JS(s:U)(o:du)(ho:o.Ok)(hK:o.K=0)(vk vs va vb v0 v1:Nat)(e:Int)(hG:Spec Tryz.prog 44 [.ref 0 vk 1 0 0,.val (.string o.v.nm),.agg (bC 16 o.v.g)] [⟨vk,.obj [.ref 1 vs 3 0 0]⟩,⟨vs,.obj [.ref 4 v0 6 0 0,.ref 2 va 3 0 0,.ref 3 vb 3 0 0]⟩,⟨va,.obj [.ref 4 v0 6 0 0,.val (.int .i64 ((0:Nat):Int)),.val (.int .i64 (1:Int))]⟩,⟨vb,.obj [.ref 4 v0 6 0 0,.val (.int .i64 (1:Int)),.val (.int .i64 (1:Int))]⟩,⟨v0,.obj [.own 5 v1 1 0 s.l.length,.val (.int .i64 (s.k:Int)),.val (.int .i64 s.ar),.val (.int .i64 s.pt),.val (.bool s.dd),.val (.int .i64 s.wr)]⟩,⟨v1,.bytes s.l⟩] (ak (.aD [.agg (aV (.val (.slice none 0 0)) aK),.val (.bool false),.val (.int .i64 e)]) [⟨vk,.obj [.ref 1 vs 3 0 0]⟩,⟨vs,.obj [.ref 4 v0 6 0 0,.ref 2 va 3 0 0,.ref 3 vb 3 0 0]⟩,⟨va,.obj [.ref 4 v0 6 0 0,.val (.int .i64 ((0:Nat):Int)),.val (.int .i64 (1:Int))]⟩,⟨vb,.obj [.ref 4 v0 6 0 0,.val (.int .i64 (1:Int)),.val (.int .i64 (1:Int))]⟩,⟨v0,.obj [.own 5 v1 1 0 s.l.length,.val (.int .i64 (s.k:Int)),.val (.int .i64 s.ar),.val (.int .i64 s.pt),.val (.bool s.dd),.val (.int .i64 s.wr)]⟩,⟨v1,.bytes s.l⟩] [])):Spec Tryz.prog 48 [.ref 4 v0 6 0 0,.ref 0 vk 1 0 0,.agg (bY o)] [⟨vk,.obj [.ref 1 vs 3 0 0]⟩,⟨vs,.obj [.ref 4 v0 6 0 0,.ref 2 va 3 0 0,.ref 3 vb 3 0 0]⟩,⟨va,.obj [.ref 4 v0 6 0 0,.val (.int .i64 ((0:Nat):Int)),.val (.int .i64 (1:Int))]⟩,⟨vb,.obj [.ref 4 v0 6 0 0,.val (.int .i64 (1:Int)),.val (.int .i64 (1:Int))]⟩,⟨v0,.obj [.own 5 v1 1 0 s.l.length,.val (.int .i64 (s.k:Int)),.val (.int .i64 s.ar),.val (.int .i64 s.pt),.val (.bool s.dd),.val (.int .i64 s.wr)]⟩,⟨v1,.bytes s.l⟩] (ak (.aD [.agg (fC (.bs 0 []) aK 0 false e),.ref 0 vk 1 0 0]) [⟨vk,.obj [.ref 1 vs 3 0 0]⟩,⟨vs,.obj [.ref 4 v0 6 0 0,.ref 2 va 3 0 0,.ref 3 vb 3 0 0]⟩,⟨va,.obj [.ref 4 v0 6 0 0,.val (.int .i64 ((0:Nat):Int)),.val (.int .i64 (1:Int))]⟩,⟨vb,.obj [.ref 4 v0 6 0 0,.val (.int .i64 (1:Int)),.val (.int .i64 (1:Int))]⟩,⟨v0,.obj [.own 5 v1 1 0 s.l.length,.val (.int .i64 (s.k:Int)),.val (.int .i64 s.ar),.val (.int .i64 s.pt),.val (.bool s.dd),.val (.int .i64 s.wr)]⟩,⟨v1,.bytes s.l⟩] []):=by
 (
 obtain⟨K,u,x⟩:=o
 have hu:=ho.v
 have hx:=ho.x
 simp only at hu hx hK
 have fk:=hu.d
 refine ax ai Tryz.func48 rfl Tryz.ntmps48 Tryz.results48 ?_
 unfold bY aV
 simp only[List.cons_append,List.nil_append]
 refine gg ?_
 refine af (lU 0 u.d fk) Tryz.call96 0 [0,0,0,30] [0,0,0,1] [3] ?_
 refine gg ?_)
 subst hK
 refine gg ?_
 refine af (hG) Tryz.call44 (hon:=cH) 6 [0,1,2,3,4,5] [0,0,0,0,0,0] [] ?_
 unfold aV
 refine gg ?_
 refine af (Ri) Tryz.call96 0 [] [] [] ?_
 refine gg ?_
 (refine aH ?_)
 conv=>whnf
 refine cE (fun i:Nat=>i=0) (fun i=>0) 6 [13,49,50,51,52,53,54,55,56,57,58,59] (fun i=>[(13,.val (.int .i64 0))]) (fun i=>[]) 0 rfl ?_ ?_ ?_
 ·exact no_implicit_lambda%ten
 ·exact no_implicit_lambda%b6
 ·rintro i v i1
  refine cF ?_
  refine gg ?_
  exact⟨_,rfl,rfl,trivial⟩
theorem SL(s:U)(o:du)(ho:o.Ok)(hK:o.K=0)(vk vs va vb v0 v1:Nat)(r:aU)(qt:r.d.length≤1000000)(hG:Spec Tryz.prog 44 [.ref 0 vk 1 0 0,.val (.string o.v.nm),.agg (bC 16 o.v.g)] [⟨vk,.obj [.ref 1 vs 3 0 0]⟩,⟨vs,.obj [.ref 4 v0 6 0 0,.ref 2 va 3 0 0,.ref 3 vb 3 0 0]⟩,⟨va,.obj [.ref 4 v0 6 0 0,.val (.int .i64 ((0:Nat):Int)),.val (.int .i64 (1:Int))]⟩,⟨vb,.obj [.ref 4 v0 6 0 0,.val (.int .i64 (1:Int)),.val (.int .i64 (1:Int))]⟩,⟨v0,.obj [.own 5 v1 1 0 s.l.length,.val (.int .i64 (s.k:Int)),.val (.int .i64 s.ar),.val (.int .i64 s.pt),.val (.bool s.dd),.val (.int .i64 s.wr)]⟩,⟨v1,.bytes s.l⟩] (ak (.aD [.agg (aV (.own 54 4 1 0 r.d.length) r),.val (.bool true),.val (.int .i64 0)]) [⟨vk,.obj [.ref 1 vs 3 0 0]⟩,⟨vs,.obj [.ref 4 v0 6 0 0,.ref 2 va 3 0 0,.ref 3 vb 3 0 0]⟩,⟨va,.obj [.ref 4 v0 6 0 0,.val (.int .i64 ((0:Nat):Int)),.val (.int .i64 (1:Int))]⟩,⟨vb,.obj [.ref 4 v0 6 0 0,.val (.int .i64 (1:Int)),.val (.int .i64 (1:Int))]⟩,⟨v0,.obj [.own 5 v1 1 0 s.l.length,.val (.int .i64 (s.k:Int)),.val (.int .i64 s.ar),.val (.int .i64 s.pt),.val (.bool s.dd),.val (.int .i64 s.wr)]⟩,⟨v1,.bytes s.l⟩] [(54,⟨4,.bytes r.d⟩)])):Spec Tryz.prog 48 [.ref 4 v0 6 0 0,.ref 0 vk 1 0 0,.agg (bY o)] [⟨vk,.obj [.ref 1 vs 3 0 0]⟩,⟨vs,.obj [.ref 4 v0 6 0 0,.ref 2 va 3 0 0,.ref 3 vb 3 0 0]⟩,⟨va,.obj [.ref 4 v0 6 0 0,.val (.int .i64 ((0:Nat):Int)),.val (.int .i64 (1:Int))]⟩,⟨vb,.obj [.ref 4 v0 6 0 0,.val (.int .i64 (1:Int)),.val (.int .i64 (1:Int))]⟩,⟨v0,.obj [.own 5 v1 1 0 s.l.length,.val (.int .i64 (s.k:Int)),.val (.int .i64 s.ar),.val (.int .i64 s.pt),.val (.bool s.dd),.val (.int .i64 s.wr)]⟩,⟨v1,.bytes s.l⟩] (ak (.aD [.agg (fC (.bs 0 r.d) r 0 true 0),.ref 0 vk 1 0 0]) [⟨vk,.obj [.ref 1 vs 3 0 0]⟩,⟨vs,.obj [.ref 4 v0 6 0 0,.ref 2 va 3 0 0,.ref 3 vb 3 0 0]⟩,⟨va,.obj [.ref 4 v0 6 0 0,.val (.int .i64 ((0:Nat):Int)),.val (.int .i64 (1:Int))]⟩,⟨vb,.obj [.ref 4 v0 6 0 0,.val (.int .i64 (1:Int)),.val (.int .i64 (1:Int))]⟩,⟨v0,.obj [.own 5 v1 1 0 s.l.length,.val (.int .i64 (s.k:Int)),.val (.int .i64 s.ar),.val (.int .i64 s.pt),.val (.bool s.dd),.val (.int .i64 s.wr)]⟩,⟨v1,.bytes s.l⟩] []):=by
 (
 obtain⟨K,u,x⟩:=o
 have hu:=ho.v
 have hx:=ho.x
 simp only at hu hx hK
 have fk:=hu.d
 refine ax ai Tryz.func48 rfl Tryz.ntmps48 Tryz.results48 ?_
 unfold bY aV
 simp only[List.cons_append,List.nil_append]
 refine gg ?_
 refine af (lU 0 u.d fk) Tryz.call96 0 [0,0,0,30] [0,0,0,1] [3] ?_
 refine gg ?_)
 subst hK
 refine gg ?_
 refine af (hG) Tryz.call44 (hon:=cH) 6 [0,1,2,3,4,5,0,0,0,0,0,0,0,0,0,0,0,0,0,0,0,0,0,0,0,0,0,0,0,0,0,0,0,0,0,0,0,0,0,0,0,0,0,0,0,0,0,0,0,0,0,0,0,0,42] [0,0,0,0,0,0,0,0,0,0,0,0,0,0,0,0,0,0,0,0,0,0,0,0,0,0,0,0,0,0,0,0,0,0,0,0,0,0,0,0,0,0,0,0,0,0,0,0,0,0,0,0,0,0,1] [54] ?_
 unfold aV
 refine gg ?_
 refine af (Rh r.d (by omega) r.d.length rfl 5) Tryz.call96 1 [42] [0] [] ?_
 refine gg ?_
 simp only[dw,dc,List.map_cons,List.map_nil,List.nil_append,List.cons_append,List.append_eq,List.length_cons,List.length_nil,Nat.reduceAdd,eY]
 (refine aH ?_)
 conv=>whnf
 refine cE (fun y:Nat×List UInt8=>y.1≤r.d.length∧y.2.length=r.d.length) (fun y=>r.d.length - y.1) 6 [13,49,50,51,52,53,54,55,56,57,58,59] (fun y=>[(13,.val (.int .i64 (y.1:Int)))]) (fun y=>[(42,⟨5,.bytes y.2⟩)]) (0,r.d) ⟨Nat.zero_le _,rfl⟩ ?_ ?_ ?_
 ·exact no_implicit_lambda%ten
 ·exact no_implicit_lambda%b6
 ·rintro⟨i,w⟩ z ⟨u1,u2⟩
  simp only at u1 u2
  refine cF ?_
  refine gg ?_
  refine⟨fun h=> ?_,fun h=> ?_⟩
  ·have ah:i<r.d.length:=by have:=of_decide_eq_true h;omega
   refine gg ?_
   exact bk (i+1,w.set (0+(i:Int).toNat) (UInt8.ofNat (Int.toNat 85))) ⟨ah,by simp[u2]⟩ (by show r.d.length - (i+1)<r.d.length - i;omega)
  ·refine gg ?_
   exact⟨_,rfl,rfl,trivial⟩
theorem SO {W : Int} {n k : Nat} (s : U) (go : aw W n k s) (hW : W ≤ 1000000000000000) (pa : aA n k 0 1) (pb : aA n k 1 1) (hn : n = 2 * 1 * k) (hd : s.dd = false) (h0 : (s.aW 1).1 = 0) (o : du) (ho : o.Ok) (hK : o.K = 6) (vk vs va vb v0 v1 : Nat) :
    Spec Tryz.prog 48 [.ref 4 v0 6 0 0,.ref 0 vk 1 0 0,.agg (bY o)] [⟨vk,.obj [.ref 1 vs 3 0 0]⟩,⟨vs,.obj [.ref 4 v0 6 0 0,.ref 2 va 3 0 0,.ref 3 vb 3 0 0]⟩,⟨va,.obj [.ref 4 v0 6 0 0,.val (.int .i64 ((0:Nat):Int)),.val (.int .i64 (1:Int))]⟩,⟨vb,.obj [.ref 4 v0 6 0 0,.val (.int .i64 (1:Int)),.val (.int .i64 (1:Int))]⟩,⟨v0,.obj [.own 5 v1 1 0 s.l.length,.val (.int .i64 (s.k:Int)),.val (.int .i64 s.ar),.val (.int .i64 s.pt),.val (.bool s.dd),.val (.int .i64 s.wr)]⟩,⟨v1,.bytes s.l⟩] (ak (.aD [.agg (fC (.val (.slice none 0 0)) aK 0 false 0),.ref 0 (1+(vk+1)) 1 0 0]) [⟨(1+(vk+1)),.obj [.ref 1 (2+(vs+1)) 3 0 0]⟩,⟨(2+(vs+1)),.obj [.ref 4 v0 6 0 0,.ref 2 (3+(va+1)) 3 0 0,.ref 3 (3+(vb+1)) 3 0 0]⟩,⟨(3+(va+1)),.obj [.ref 4 v0 6 0 0,.val (.int .i64 ((0:Nat):Int)),.val (.int .i64 (1:Int))]⟩,⟨(3+(vb+1)),.obj [.ref 4 v0 6 0 0,.val (.int .i64 (1:Int)),.val (.int .i64 (1:Int))]⟩,⟨v0,.obj [.own 5 v1 1 0 (s.aW 1).2.l.length,.val (.int .i64 ((s.aW 1).2.k:Int)),.val (.int .i64 (s.aW 1).2.ar),.val (.int .i64 (s.aW 1).2.pt),.val (.bool (s.aW 1).2.dd),.val (.int .i64 (s.aW 1).2.wr)]⟩,⟨v1,.bytes (s.aW 1).2.l⟩] []):=by
 have cU:=yJ s 1 go hW pa pb hn hd h0 v0 v1
 generalize s.aW 1=T at cU⊢
 (
 obtain⟨K,u,x⟩:=o
 have hu:=ho.v
 have hx:=ho.x
 simp only at hu hx hK
 have fk:=hu.d
 refine ax ai Tryz.func48 rfl Tryz.ntmps48 Tryz.results48 ?_
 unfold bY aV
 simp only[List.cons_append,List.nil_append]
 refine gg ?_
 refine af (lU 0 u.d fk) Tryz.call96 0 [0,0,0,30] [0,0,0,1] [3] ?_
 refine gg ?_)
 subst hK
 refine gg ?_
 refine af (cU) Tryz.call58 (had:=⟨⟨_,rfl,Nat.lt_succ_self vk⟩,⟨_,rfl,Nat.lt_succ_self vs⟩,⟨_,rfl,Nat.lt_succ_self va⟩,⟨_,rfl,Nat.lt_succ_self vb⟩,trivial⟩) (hz:=fun r hr=>by match r,hr with | 0,_=>rfl | 1,_=>rfl) 2 [4,5,0,0,0,0,0,0,0,0,1,2,3,0,0,0,0,0,0] [0,0,0,0,0,0,0,0,0,0,(vs+1),(va+1),(vb+1),0,0,0,0,0,(vk+1)] [18,10,11,12] ?_
 refine gg ?_
 exact⟨_,rfl,rfl,trivial⟩
theorem DJ{a b:ByteArray}{g h:List UInt8}(hg:g.length=16)(hh:h.length=16)(e:aO a g=aO b h):a=b∧g=h:=by
 unfold aO at e
 have e1:g=h:=by
  have:=congrArg (List.take 16) e
  rwa [List.take_left' hg,List.take_left' hh] at this
 have e2:a.data.toList=b.data.toList:=by
  have:=congrArg (List.drop 16) e
  rwa [List.drop_left' hg,List.drop_left' hh] at this
 exact⟨by rw[←lQ a,e2,lQ],e1⟩
theorem SQ{v:aU}(hv:gq v):kV v≠bQ:=by
 intro e
 have hl:=congrArg List.length e
 unfold kV aO at hl
 rw[List.length_append,hv.ok.g] at hl
 have:bQ.length=4:=rfl
 omega
theorem SR (s : U) (c : Nat) (nm : ByteArray) (hn : nm.size ≤ 140737488355328) (g : List UInt8) (hr : bM nm = false) (vk vs va vb v0 v1 : Nat) : Spec Tryz.prog 44 [.ref 0 vk 1 0 0, .val (.string nm), .agg (bC 16 g)] [⟨vk, .obj [.ref 1 vs 3 0 0]⟩, ⟨vs, .obj [.ref 4 v0 6 0 0, .ref 2 va 3 0 0, .ref 3 vb 3 0 0]⟩, ⟨va, .obj [.ref 4 v0 6 0 0, .val (.int .i64 ((0 : Nat) : Int)), .val (.int .i64 (c : Int))]⟩, ⟨vb, .obj [.ref 4 v0 6 0 0, .val (.int .i64 (c : Int)), .val (.int .i64 (c : Int))]⟩, ⟨v0, .obj [.own 5 v1 1 0 s.l.length, .val (.int .i64 (s.k : Int)), .val (.int .i64 s.ar), .val (.int .i64 s.pt), .val (.bool s.dd), .val (.int .i64 s.wr)]⟩, ⟨v1, .bytes s.l⟩]
   (ak (.aD [.agg (aV (.val (.slice none 0 0)) aK),.val (.bool false),.val (.int .i64 1)]) [⟨vk,.obj [.ref 1 vs 3 0 0]⟩,⟨vs,.obj [.ref 4 v0 6 0 0,.ref 2 va 3 0 0,.ref 3 vb 3 0 0]⟩,⟨va,.obj [.ref 4 v0 6 0 0,.val (.int .i64 ((0:Nat):Int)),.val (.int .i64 (c:Int))]⟩,⟨vb,.obj [.ref 4 v0 6 0 0,.val (.int .i64 (c:Int)),.val (.int .i64 (c:Int))]⟩,⟨v0,.obj [.own 5 v1 1 0 s.l.length,.val (.int .i64 (s.k:Int)),.val (.int .i64 s.ar),.val (.int .i64 s.pt),.val (.bool s.dd),.val (.int .i64 s.wr)]⟩,⟨v1,.bytes s.l⟩] []):=by
 have gC:=yG nm hn g hr
 refine ax ai Tryz.func44 rfl Tryz.ntmps44 Tryz.results44 ?_
 refine gg ?_
 refine aY (gC) Tryz.call97 (hon:=cH) [] ?_
 refine gg ?_
 exact⟨_,rfl,rfl,trivial⟩
end Go.Proofs.YtpbpiehcchannaaGreatDoor
