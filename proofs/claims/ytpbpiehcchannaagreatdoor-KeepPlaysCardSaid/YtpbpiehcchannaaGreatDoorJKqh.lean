/- Walks of lintellaw21: does. Walks of lintellaw21: does (more kinds). Walks of lintellaw21: does, with a flash. What is done with a book whose store is a map of variables. Conditions: the premises of each law. -/
import Derived.Test.YtpbpiehcchannaaGreatDoorJKo2
namespace Go.Proofs.YtpbpiehcchannaaGreatDoor
open Go.RowKit
set_option linter.unusedVariables false
set_option linter.unusedSimpArgs false
set_option maxRecDepth 100000
set_option maxHeartbeats 1500000
def kdropP(s:FlS)(nm:ByteArray)(g:List UInt8):Int×FlS:=if rightN nm=true then s.del 1 (keyV nm g) else(1,s)
theorem kdrop_any {W : Int} {n k : Nat} (s : FlS) (go : Goes W n k s) (hW : W ≤ 1000000000000000) (pa : Lies n k 0 1) (pb : Lies n k 1 1) (nm : ByteArray) (hn : nm.size ≤ 140737488355328) (g : List UInt8) (hg : g.length = 16) (vk vs va vb v0 v1 : Nat) : Spec Tryz.prog 60 [.ref 0 vk 1 0 0, .val (.string nm), .agg (bytesA 16 g)] [⟨vk, .obj [.ref 1 vs 3 0 0]⟩, ⟨vs, .obj [.ref 4 v0 6 0 0, .ref 2 va 3 0 0, .ref 3 vb 3 0 0]⟩, ⟨va, .obj [.ref 4 v0 6 0 0, .val (.int .i64 ((0 : Nat) : Int)), .val (.int .i64 (1 : Int))]⟩, ⟨vb, .obj [.ref 4 v0 6 0 0, .val (.int .i64 (1 : Int)), .val (.int .i64 (1 : Int))]⟩, ⟨v0, .obj [.own 5 v1 1 0 s.l.length, .val (.int .i64 (s.k : Int)), .val (.int .i64 s.ar), .val (.int .i64 s.pt), .val (.bool s.dd), .val (.int .i64 s.wr)]⟩, ⟨v1, .bytes s.l⟩]
   (pms (.val (.int .i64 (kdropP s nm g).1)) [⟨vk,.obj [.ref 1 vs 3 0 0]⟩,⟨vs,.obj [.ref 4 v0 6 0 0,.ref 2 va 3 0 0,.ref 3 vb 3 0 0]⟩,⟨va,.obj [.ref 4 v0 6 0 0,.val (.int .i64 ((0:Nat):Int)),.val (.int .i64 (1:Int))]⟩,⟨vb,.obj [.ref 4 v0 6 0 0,.val (.int .i64 (1:Int)),.val (.int .i64 (1:Int))]⟩,⟨v0,.obj [.own 5 v1 1 0 (kdropP s nm g).2.l.length,.val (.int .i64 ((kdropP s nm g).2.k:Int)),.val (.int .i64 (kdropP s nm g).2.ar),.val (.int .i64 (kdropP s nm g).2.pt),.val (.bool (kdropP s nm g).2.dd),.val (.int .i64 (kdropP s nm g).2.wr)]⟩,⟨v1,.bytes (kdropP s nm g).2.l⟩] []):=by
 cases h:rightN nm with
 | true=>
  rw[show kdropP s nm g=s.del 1 (keyV nm g) from if_pos h]
  exact kdrop_vc s 1 go hW pa pb nm g hg h vk vs va vb v0 v1
 | false=>
  rw[show kdropP s nm g=(1,s) from if_neg (by rw[h];simp)]
  exact kdrop_bad s 1 nm hn g h vk vs va vb v0 v1
end Go.Proofs.YtpbpiehcchannaaGreatDoor
namespace Go.Proofs.YtpbpiehcchannaaGreatDoor
open Go.RowKit
set_option linter.unusedVariables false
set_option linter.unusedSimpArgs false
set_option maxRecDepth 100000
set_option maxHeartbeats 1500000
end Go.Proofs.YtpbpiehcchannaaGreatDoor
namespace Go.Proofs.YtpbpiehcchannaaGreatDoor
open Go.RowKit
set_option linter.unusedVariables false
set_option linter.unusedSimpArgs false
set_option maxRecDepth 100000
set_option maxHeartbeats 1500000
theorem doesF_put{W:Int}{n k:Nat}(s:FlS)(go:Goes W n k s)(hW:W≤1000000000000000)(pa:Lies n k 0 1)(pb:Lies n k 1 1)(hd:s.dd=false)(o:OpV)(ho:o.Ok)(hK:o.K=1)(vk vs va vb v0 v1:Nat):Spec Tryz.prog 48 [.ref 4 v0 6 0 0,.ref 0 vk 1 0 0,.agg (opA o)] [⟨vk,.obj [.ref 1 vs 3 0 0]⟩,⟨vs,.obj [.ref 4 v0 6 0 0,.ref 2 va 3 0 0,.ref 3 vb 3 0 0]⟩,⟨va,.obj [.ref 4 v0 6 0 0,.val (.int .i64 ((0:Nat):Int)),.val (.int .i64 (1:Int))]⟩,⟨vb,.obj [.ref 4 v0 6 0 0,.val (.int .i64 (1:Int)),.val (.int .i64 (1:Int))]⟩,⟨v0,.obj [.own 5 v1 1 0 s.l.length,.val (.int .i64 (s.k:Int)),.val (.int .i64 s.ar),.val (.int .i64 s.pt),.val (.bool s.dd),.val (.int .i64 s.wr)]⟩,⟨v1,.bytes s.l⟩] (pms (.tup [.agg (toldA (.val (.slice none 0 0)) varZ 0 true (kputP s o.v).1),.ref 0 vk 1 0 0]) [⟨vk,.obj [.ref 1 vs 3 0 0]⟩,⟨vs,.obj [.ref 4 v0 6 0 0,.ref 2 va 3 0 0,.ref 3 vb 3 0 0]⟩,⟨va,.obj [.ref 4 v0 6 0 0,.val (.int .i64 ((0:Nat):Int)),.val (.int .i64 (1:Int))]⟩,⟨vb,.obj [.ref 4 v0 6 0 0,.val (.int .i64 (1:Int)),.val (.int .i64 (1:Int))]⟩,⟨v0,.obj [.own 5 v1 1 0 (kputP s o.v).2.l.length,.val (.int .i64 ((kputP s o.v).2.k:Int)),.val (.int .i64 (kputP s o.v).2.ar),.val (.int .i64 (kputP s o.v).2.pt),.val (.bool (kputP s o.v).2.dd),.val (.int .i64 (kputP s o.v).2.wr)]⟩,⟨v1,.bytes (kputP s o.v).2.l⟩] []):=by
 (
 obtain⟨K,u,x⟩:=o
 have hu:=ho.v
 have hx:=ho.x
 simp only at hu hx hK
 have hud:=hu.d
 refine spec_entry tbOk Tryz.func48 rfl Tryz.ntmps48 Tryz.results48 ?_
 unfold opA varA
 simp only[List.cons_append,List.nil_append]
 refine gg (k:= ?_)
 refine cmks (twin21_raw 0 u.d hud) Tryz.call96 0 [0,0,0,30] [0,0,0,1] [3] ?_
 refine gg (k:= ?_))
 subst hK
 refine cmks (kput_own s go hW pa pb hd u hu u.d.length rfl vk vs va vb v0 v1 3) Tryz.call59 (hon:=⟨(by decide:0<7),varA_on (x:= .own 6 3 1 0 u.d.length) (P:=(· <7)) (show 6<7 by decide) _,trivial⟩) 7 [0,1,2,3,4,5,30] [0,0,0,0,0,0,0] [] ?_
 refine gg (k:= ?_)
 (refine sts (k:= ?_))
 conv=>whnf
 refine loop_at (fun y:Nat×List UInt8=>y.1≤u.d.length∧y.2.length=u.d.length) (fun y=>u.d.length - y.1) 6 [14,75,76,77,78,79,80,81,82,83,84,85] (fun y=>[(14,.val (.int .i64 (y.1:Int)))]) (fun y=>[(30,⟨3,.bytes y.2⟩)]) (0,u.d) ⟨Nat.zero_le _,rfl⟩ ?_ ?_ ?_
 ·exact no_implicit_lambda%ten
 ·exact no_implicit_lambda%hen
 ·rintro⟨i,w⟩ z ⟨u1,u2⟩
  simp only at u1 u2
  refine glp (k:= ?_)
  refine gg (k:= ?_)
  refine⟨fun h=> ?_,fun h=> ?_⟩
  ·have hlt:i<u.d.length:=by have:=of_decide_eq_true h;omega
   refine gg (k:= ?_)
   refine back_at (i+1,w.set (0+(i:Int).toNat) (UInt8.ofNat (Int.toNat 85))) ⟨hlt,by simp[u2]⟩ (by show u.d.length - (i+1)<u.d.length - i;omega) ?_ ?_
   ·exact no_implicit_lambda%ten
   ·exact no_implicit_lambda%hen
  ·refine gg (k:= ?_)
   rw[show decide ((strOf ((u.d.drop 0).take u.d.length)).data.toList=(strOf u.d).data.toList)=true from decide_eq_true (by rw[whole u.d])]
   exact⟨_,rfl,rfl,trivial⟩
theorem doesF_drop{W:Int}{n k:Nat}(s:FlS)(go:Goes W n k s)(hW:W≤1000000000000000)(pa:Lies n k 0 1)(pb:Lies n k 1 1)(o:OpV)(ho:o.Ok)(hK:o.K=2)(vk vs va vb v0 v1:Nat):Spec Tryz.prog 48 [.ref 4 v0 6 0 0,.ref 0 vk 1 0 0,.agg (opA o)] [⟨vk,.obj [.ref 1 vs 3 0 0]⟩,⟨vs,.obj [.ref 4 v0 6 0 0,.ref 2 va 3 0 0,.ref 3 vb 3 0 0]⟩,⟨va,.obj [.ref 4 v0 6 0 0,.val (.int .i64 ((0:Nat):Int)),.val (.int .i64 (1:Int))]⟩,⟨vb,.obj [.ref 4 v0 6 0 0,.val (.int .i64 (1:Int)),.val (.int .i64 (1:Int))]⟩,⟨v0,.obj [.own 5 v1 1 0 s.l.length,.val (.int .i64 (s.k:Int)),.val (.int .i64 s.ar),.val (.int .i64 s.pt),.val (.bool s.dd),.val (.int .i64 s.wr)]⟩,⟨v1,.bytes s.l⟩] (pms (.tup [.agg (toldA (.val (.slice none 0 0)) varZ 0 false (kdropP s o.v.nm o.v.g).1),.ref 0 vk 1 0 0]) [⟨vk,.obj [.ref 1 vs 3 0 0]⟩,⟨vs,.obj [.ref 4 v0 6 0 0,.ref 2 va 3 0 0,.ref 3 vb 3 0 0]⟩,⟨va,.obj [.ref 4 v0 6 0 0,.val (.int .i64 ((0:Nat):Int)),.val (.int .i64 (1:Int))]⟩,⟨vb,.obj [.ref 4 v0 6 0 0,.val (.int .i64 (1:Int)),.val (.int .i64 (1:Int))]⟩,⟨v0,.obj [.own 5 v1 1 0 (kdropP s o.v.nm o.v.g).2.l.length,.val (.int .i64 ((kdropP s o.v.nm o.v.g).2.k:Int)),.val (.int .i64 (kdropP s o.v.nm o.v.g).2.ar),.val (.int .i64 (kdropP s o.v.nm o.v.g).2.pt),.val (.bool (kdropP s o.v.nm o.v.g).2.dd),.val (.int .i64 (kdropP s o.v.nm o.v.g).2.wr)]⟩,⟨v1,.bytes (kdropP s o.v.nm o.v.g).2.l⟩] []):=by
 (
 obtain⟨K,u,x⟩:=o
 have hu:=ho.v
 have hx:=ho.x
 simp only at hu hx hK
 have hud:=hu.d
 refine spec_entry tbOk Tryz.func48 rfl Tryz.ntmps48 Tryz.results48 ?_
 unfold opA varA
 simp only[List.cons_append,List.nil_append]
 refine gg (k:= ?_)
 refine cmks (twin21_raw 0 u.d hud) Tryz.call96 0 [0,0,0,30] [0,0,0,1] [3] ?_
 refine gg (k:= ?_))
 subst hK
 refine gg (k:= ?_)
 refine cmks (kdrop_any s go hW pa pb u.nm hu.nm u.g hu.g vk vs va vb v0 v1) Tryz.call60 (hon:=rowu) 6 [0,1,2,3,4,5] [0,0,0,0,0,0] [] ?_
 refine gg (k:= ?_)
 exact⟨_,rfl,rfl,trivial⟩
theorem doesF_next(s:FlS)(o:OpV)(ho:o.Ok)(hK:o.K=3)(vk vs va vb v0 v1:Nat)(a:ByteArray)(b:List UInt8)(e:Int)(hN:Spec Tryz.prog 45 [.ref 0 vk 1 0 0,.val (.string o.v.nm),.agg (bytesA 16 o.v.g)] [⟨vk,.obj [.ref 1 vs 3 0 0]⟩,⟨vs,.obj [.ref 4 v0 6 0 0,.ref 2 va 3 0 0,.ref 3 vb 3 0 0]⟩,⟨va,.obj [.ref 4 v0 6 0 0,.val (.int .i64 ((0:Nat):Int)),.val (.int .i64 (1:Int))]⟩,⟨vb,.obj [.ref 4 v0 6 0 0,.val (.int .i64 (1:Int)),.val (.int .i64 (1:Int))]⟩,⟨v0,.obj [.own 5 v1 1 0 s.l.length,.val (.int .i64 (s.k:Int)),.val (.int .i64 s.ar),.val (.int .i64 s.pt),.val (.bool s.dd),.val (.int .i64 s.wr)]⟩,⟨v1,.bytes s.l⟩] (pms (.tup [.val (.string a),.agg (bytesA 16 b),.val (.int .i64 e)]) [⟨vk,.obj [.ref 1 vs 3 0 0]⟩,⟨vs,.obj [.ref 4 v0 6 0 0,.ref 2 va 3 0 0,.ref 3 vb 3 0 0]⟩,⟨va,.obj [.ref 4 v0 6 0 0,.val (.int .i64 ((0:Nat):Int)),.val (.int .i64 (1:Int))]⟩,⟨vb,.obj [.ref 4 v0 6 0 0,.val (.int .i64 (1:Int)),.val (.int .i64 (1:Int))]⟩,⟨v0,.obj [.own 5 v1 1 0 s.l.length,.val (.int .i64 (s.k:Int)),.val (.int .i64 s.ar),.val (.int .i64 s.pt),.val (.bool s.dd),.val (.int .i64 s.wr)]⟩,⟨v1,.bytes s.l⟩] [])):Spec Tryz.prog 48 [.ref 4 v0 6 0 0,.ref 0 vk 1 0 0,.agg (opA o)] [⟨vk,.obj [.ref 1 vs 3 0 0]⟩,⟨vs,.obj [.ref 4 v0 6 0 0,.ref 2 va 3 0 0,.ref 3 vb 3 0 0]⟩,⟨va,.obj [.ref 4 v0 6 0 0,.val (.int .i64 ((0:Nat):Int)),.val (.int .i64 (1:Int))]⟩,⟨vb,.obj [.ref 4 v0 6 0 0,.val (.int .i64 (1:Int)),.val (.int .i64 (1:Int))]⟩,⟨v0,.obj [.own 5 v1 1 0 s.l.length,.val (.int .i64 (s.k:Int)),.val (.int .i64 s.ar),.val (.int .i64 s.pt),.val (.bool s.dd),.val (.int .i64 s.wr)]⟩,⟨v1,.bytes s.l⟩] (pms (.tup [.agg (toldA (.val (.slice none 0 0)) ⟨a,b,0,⟨0,0,0,0,0,0⟩,List.replicate 32 0,[]⟩ 0 false e),.ref 0 vk 1 0 0]) [⟨vk,.obj [.ref 1 vs 3 0 0]⟩,⟨vs,.obj [.ref 4 v0 6 0 0,.ref 2 va 3 0 0,.ref 3 vb 3 0 0]⟩,⟨va,.obj [.ref 4 v0 6 0 0,.val (.int .i64 ((0:Nat):Int)),.val (.int .i64 (1:Int))]⟩,⟨vb,.obj [.ref 4 v0 6 0 0,.val (.int .i64 (1:Int)),.val (.int .i64 (1:Int))]⟩,⟨v0,.obj [.own 5 v1 1 0 s.l.length,.val (.int .i64 (s.k:Int)),.val (.int .i64 s.ar),.val (.int .i64 s.pt),.val (.bool s.dd),.val (.int .i64 s.wr)]⟩,⟨v1,.bytes s.l⟩] []):=by
 (
 obtain⟨K,u,x⟩:=o
 have hu:=ho.v
 have hx:=ho.x
 simp only at hu hx hK
 have hud:=hu.d
 refine spec_entry tbOk Tryz.func48 rfl Tryz.ntmps48 Tryz.results48 ?_
 unfold opA varA
 simp only[List.cons_append,List.nil_append]
 refine gg (k:= ?_)
 refine cmks (twin21_raw 0 u.d hud) Tryz.call96 0 [0,0,0,30] [0,0,0,1] [3] ?_
 refine gg (k:= ?_))
 subst hK
 refine gg (k:= ?_)
 refine cmks (hN) Tryz.call45 (hon:=rowu) (hX:=rowu) 6 [0,1,2,3,4,5] [0,0,0,0,0,0] [] ?_
 refine gg (k:= ?_)
 exact⟨_,rfl,rfl,trivial⟩
theorem doesF_mark(s:FlS)(o:OpV)(ho:o.Ok)(hK:o.K=4)(vk vs va vb v0 v1:Nat)(m:Int)(hm:0≤m∧m≤255)(hM:Spec Tryz.prog 47 [.ref 0 vk 1 0 0] [⟨vk,.obj [.ref 1 vs 3 0 0]⟩,⟨vs,.obj [.ref 4 v0 6 0 0,.ref 2 va 3 0 0,.ref 3 vb 3 0 0]⟩,⟨va,.obj [.ref 4 v0 6 0 0,.val (.int .i64 ((0:Nat):Int)),.val (.int .i64 (1:Int))]⟩,⟨vb,.obj [.ref 4 v0 6 0 0,.val (.int .i64 (1:Int)),.val (.int .i64 (1:Int))]⟩,⟨v0,.obj [.own 5 v1 1 0 s.l.length,.val (.int .i64 (s.k:Int)),.val (.int .i64 s.ar),.val (.int .i64 s.pt),.val (.bool s.dd),.val (.int .i64 s.wr)]⟩,⟨v1,.bytes s.l⟩] (pms (.tup [.val (.int .u8 m),.val (.int .i64 0)]) [⟨vk,.obj [.ref 1 vs 3 0 0]⟩,⟨vs,.obj [.ref 4 v0 6 0 0,.ref 2 va 3 0 0,.ref 3 vb 3 0 0]⟩,⟨va,.obj [.ref 4 v0 6 0 0,.val (.int .i64 ((0:Nat):Int)),.val (.int .i64 (1:Int))]⟩,⟨vb,.obj [.ref 4 v0 6 0 0,.val (.int .i64 (1:Int)),.val (.int .i64 (1:Int))]⟩,⟨v0,.obj [.own 5 v1 1 0 s.l.length,.val (.int .i64 (s.k:Int)),.val (.int .i64 s.ar),.val (.int .i64 s.pt),.val (.bool s.dd),.val (.int .i64 s.wr)]⟩,⟨v1,.bytes s.l⟩] [])):Spec Tryz.prog 48 [.ref 4 v0 6 0 0,.ref 0 vk 1 0 0,.agg (opA o)] [⟨vk,.obj [.ref 1 vs 3 0 0]⟩,⟨vs,.obj [.ref 4 v0 6 0 0,.ref 2 va 3 0 0,.ref 3 vb 3 0 0]⟩,⟨va,.obj [.ref 4 v0 6 0 0,.val (.int .i64 ((0:Nat):Int)),.val (.int .i64 (1:Int))]⟩,⟨vb,.obj [.ref 4 v0 6 0 0,.val (.int .i64 (1:Int)),.val (.int .i64 (1:Int))]⟩,⟨v0,.obj [.own 5 v1 1 0 s.l.length,.val (.int .i64 (s.k:Int)),.val (.int .i64 s.ar),.val (.int .i64 s.pt),.val (.bool s.dd),.val (.int .i64 s.wr)]⟩,⟨v1,.bytes s.l⟩] (pms (.tup [.agg (toldA (.val (.slice none 0 0)) varZ m false 0),.ref 0 vk 1 0 0]) [⟨vk,.obj [.ref 1 vs 3 0 0]⟩,⟨vs,.obj [.ref 4 v0 6 0 0,.ref 2 va 3 0 0,.ref 3 vb 3 0 0]⟩,⟨va,.obj [.ref 4 v0 6 0 0,.val (.int .i64 ((0:Nat):Int)),.val (.int .i64 (1:Int))]⟩,⟨vb,.obj [.ref 4 v0 6 0 0,.val (.int .i64 (1:Int)),.val (.int .i64 (1:Int))]⟩,⟨v0,.obj [.own 5 v1 1 0 s.l.length,.val (.int .i64 (s.k:Int)),.val (.int .i64 s.ar),.val (.int .i64 s.pt),.val (.bool s.dd),.val (.int .i64 s.wr)]⟩,⟨v1,.bytes s.l⟩] []):=by
 (
 obtain⟨K,u,x⟩:=o
 have hu:=ho.v
 have hx:=ho.x
 simp only at hu hx hK
 have hud:=hu.d
 refine spec_entry tbOk Tryz.func48 rfl Tryz.ntmps48 Tryz.results48 ?_
 unfold opA varA
 simp only[List.cons_append,List.nil_append]
 refine gg (k:= ?_)
 refine cmks (twin21_raw 0 u.d hud) Tryz.call96 0 [0,0,0,30] [0,0,0,1] [3] ?_
 refine gg (k:= ?_))
 subst hK
 refine gg (k:= ?_)
 refine cmks (hM) Tryz.call47 6 [0,1,2,3,4,5] [0,0,0,0,0,0] [] ?_
 refine gg (k:= ?_)
 exact⟨_,rfl,rfl,trivial⟩
theorem doesF_note{W:Int}{n k:Nat}(s:FlS)(go:Goes W n k s)(hW:W≤1000000000000000)(pa:Lies n k 0 1)(pb:Lies n k 1 1)(hd:s.dd=false)(o:OpV)(ho:o.Ok)(hK:o.K=5)(vk vs va vb v0 v1:Nat):Spec Tryz.prog 48 [.ref 4 v0 6 0 0,.ref 0 vk 1 0 0,.agg (opA o)] [⟨vk,.obj [.ref 1 vs 3 0 0]⟩,⟨vs,.obj [.ref 4 v0 6 0 0,.ref 2 va 3 0 0,.ref 3 vb 3 0 0]⟩,⟨va,.obj [.ref 4 v0 6 0 0,.val (.int .i64 ((0:Nat):Int)),.val (.int .i64 (1:Int))]⟩,⟨vb,.obj [.ref 4 v0 6 0 0,.val (.int .i64 (1:Int)),.val (.int .i64 (1:Int))]⟩,⟨v0,.obj [.own 5 v1 1 0 s.l.length,.val (.int .i64 (s.k:Int)),.val (.int .i64 s.ar),.val (.int .i64 s.pt),.val (.bool s.dd),.val (.int .i64 s.wr)]⟩,⟨v1,.bytes s.l⟩] (pms (.tup [.agg (toldA (.val (.slice none 0 0)) varZ 0 false (s.set 1 markK [u8 o.x]).1),.ref 0 vk 1 0 0]) [⟨vk,.obj [.ref 1 vs 3 0 0]⟩,⟨vs,.obj [.ref 4 v0 6 0 0,.ref 2 va 3 0 0,.ref 3 vb 3 0 0]⟩,⟨va,.obj [.ref 4 v0 6 0 0,.val (.int .i64 ((0:Nat):Int)),.val (.int .i64 (1:Int))]⟩,⟨vb,.obj [.ref 4 v0 6 0 0,.val (.int .i64 (1:Int)),.val (.int .i64 (1:Int))]⟩,⟨v0,.obj [.own 5 v1 1 0 (s.set 1 markK [u8 o.x]).2.l.length,.val (.int .i64 ((s.set 1 markK [u8 o.x]).2.k:Int)),.val (.int .i64 (s.set 1 markK [u8 o.x]).2.ar),.val (.int .i64 (s.set 1 markK [u8 o.x]).2.pt),.val (.bool (s.set 1 markK [u8 o.x]).2.dd),.val (.int .i64 (s.set 1 markK [u8 o.x]).2.wr)]⟩,⟨v1,.bytes (s.set 1 markK [u8 o.x]).2.l⟩] []):=by
 (
 obtain⟨K,u,x⟩:=o
 have hu:=ho.v
 have hx:=ho.x
 simp only at hu hx hK
 have hud:=hu.d
 refine spec_entry tbOk Tryz.func48 rfl Tryz.ntmps48 Tryz.results48 ?_
 unfold opA varA
 simp only[List.cons_append,List.nil_append]
 refine gg (k:= ?_)
 refine cmks (twin21_raw 0 u.d hud) Tryz.call96 0 [0,0,0,30] [0,0,0,1] [3] ?_
 refine gg (k:= ?_))
 subst hK
 refine gg (k:= ?_)
 refine cmks (kset_vc s 1 go hW pa pb hd x hx vk vs va vb v0 v1) Tryz.call61 6 [0,1,2,3,4,5] [0,0,0,0,0,0] [] ?_
 refine gg (k:= ?_)
 exact⟨_,rfl,rfl,trivial⟩
theorem doesF_other(s:FlS)(o:OpV)(ho:o.Ok)(hK:¬(0≤o.K∧o.K≤6))(vk vs va vb v0 v1:Nat):Spec Tryz.prog 48 [.ref 4 v0 6 0 0,.ref 0 vk 1 0 0,.agg (opA o)] [⟨vk,.obj [.ref 1 vs 3 0 0]⟩,⟨vs,.obj [.ref 4 v0 6 0 0,.ref 2 va 3 0 0,.ref 3 vb 3 0 0]⟩,⟨va,.obj [.ref 4 v0 6 0 0,.val (.int .i64 ((0:Nat):Int)),.val (.int .i64 (1:Int))]⟩,⟨vb,.obj [.ref 4 v0 6 0 0,.val (.int .i64 (1:Int)),.val (.int .i64 (1:Int))]⟩,⟨v0,.obj [.own 5 v1 1 0 s.l.length,.val (.int .i64 (s.k:Int)),.val (.int .i64 s.ar),.val (.int .i64 s.pt),.val (.bool s.dd),.val (.int .i64 s.wr)]⟩,⟨v1,.bytes s.l⟩] (pms (.tup [.agg (toldA (.val (.slice none 0 0)) varZ 0 false 0),.ref 0 vk 1 0 0]) [⟨vk,.obj [.ref 1 vs 3 0 0]⟩,⟨vs,.obj [.ref 4 v0 6 0 0,.ref 2 va 3 0 0,.ref 3 vb 3 0 0]⟩,⟨va,.obj [.ref 4 v0 6 0 0,.val (.int .i64 ((0:Nat):Int)),.val (.int .i64 (1:Int))]⟩,⟨vb,.obj [.ref 4 v0 6 0 0,.val (.int .i64 (1:Int)),.val (.int .i64 (1:Int))]⟩,⟨v0,.obj [.own 5 v1 1 0 s.l.length,.val (.int .i64 (s.k:Int)),.val (.int .i64 s.ar),.val (.int .i64 s.pt),.val (.bool s.dd),.val (.int .i64 s.wr)]⟩,⟨v1,.bytes s.l⟩] []):=by
 (
 obtain⟨K,u,x⟩:=o
 have hu:=ho.v
 have hx:=ho.x
 simp only at hu hx hK
 have hud:=hu.d
 refine spec_entry tbOk Tryz.func48 rfl Tryz.ntmps48 Tryz.results48 ?_
 unfold opA varA
 simp only[List.cons_append,List.nil_append]
 refine gg (k:= ?_)
 refine cmks (twin21_raw 0 u.d hud) Tryz.call96 0 [0,0,0,30] [0,0,0,1] [3] ?_
 refine gg (k:= ?_))
 exact⟨_,rfl,rfl,trivial⟩
theorem doesF_getno(s:FlS)(o:OpV)(ho:o.Ok)(hK:o.K=0)(vk vs va vb v0 v1:Nat)(e:Int)(hG:Spec Tryz.prog 44 [.ref 0 vk 1 0 0,.val (.string o.v.nm),.agg (bytesA 16 o.v.g)] [⟨vk,.obj [.ref 1 vs 3 0 0]⟩,⟨vs,.obj [.ref 4 v0 6 0 0,.ref 2 va 3 0 0,.ref 3 vb 3 0 0]⟩,⟨va,.obj [.ref 4 v0 6 0 0,.val (.int .i64 ((0:Nat):Int)),.val (.int .i64 (1:Int))]⟩,⟨vb,.obj [.ref 4 v0 6 0 0,.val (.int .i64 (1:Int)),.val (.int .i64 (1:Int))]⟩,⟨v0,.obj [.own 5 v1 1 0 s.l.length,.val (.int .i64 (s.k:Int)),.val (.int .i64 s.ar),.val (.int .i64 s.pt),.val (.bool s.dd),.val (.int .i64 s.wr)]⟩,⟨v1,.bytes s.l⟩] (pms (.tup [.agg (varA (.val (.slice none 0 0)) varZ),.val (.bool false),.val (.int .i64 e)]) [⟨vk,.obj [.ref 1 vs 3 0 0]⟩,⟨vs,.obj [.ref 4 v0 6 0 0,.ref 2 va 3 0 0,.ref 3 vb 3 0 0]⟩,⟨va,.obj [.ref 4 v0 6 0 0,.val (.int .i64 ((0:Nat):Int)),.val (.int .i64 (1:Int))]⟩,⟨vb,.obj [.ref 4 v0 6 0 0,.val (.int .i64 (1:Int)),.val (.int .i64 (1:Int))]⟩,⟨v0,.obj [.own 5 v1 1 0 s.l.length,.val (.int .i64 (s.k:Int)),.val (.int .i64 s.ar),.val (.int .i64 s.pt),.val (.bool s.dd),.val (.int .i64 s.wr)]⟩,⟨v1,.bytes s.l⟩] [])):Spec Tryz.prog 48 [.ref 4 v0 6 0 0,.ref 0 vk 1 0 0,.agg (opA o)] [⟨vk,.obj [.ref 1 vs 3 0 0]⟩,⟨vs,.obj [.ref 4 v0 6 0 0,.ref 2 va 3 0 0,.ref 3 vb 3 0 0]⟩,⟨va,.obj [.ref 4 v0 6 0 0,.val (.int .i64 ((0:Nat):Int)),.val (.int .i64 (1:Int))]⟩,⟨vb,.obj [.ref 4 v0 6 0 0,.val (.int .i64 (1:Int)),.val (.int .i64 (1:Int))]⟩,⟨v0,.obj [.own 5 v1 1 0 s.l.length,.val (.int .i64 (s.k:Int)),.val (.int .i64 s.ar),.val (.int .i64 s.pt),.val (.bool s.dd),.val (.int .i64 s.wr)]⟩,⟨v1,.bytes s.l⟩] (pms (.tup [.agg (toldA (.bs 0 []) varZ 0 false e),.ref 0 vk 1 0 0]) [⟨vk,.obj [.ref 1 vs 3 0 0]⟩,⟨vs,.obj [.ref 4 v0 6 0 0,.ref 2 va 3 0 0,.ref 3 vb 3 0 0]⟩,⟨va,.obj [.ref 4 v0 6 0 0,.val (.int .i64 ((0:Nat):Int)),.val (.int .i64 (1:Int))]⟩,⟨vb,.obj [.ref 4 v0 6 0 0,.val (.int .i64 (1:Int)),.val (.int .i64 (1:Int))]⟩,⟨v0,.obj [.own 5 v1 1 0 s.l.length,.val (.int .i64 (s.k:Int)),.val (.int .i64 s.ar),.val (.int .i64 s.pt),.val (.bool s.dd),.val (.int .i64 s.wr)]⟩,⟨v1,.bytes s.l⟩] []):=by
 (
 obtain⟨K,u,x⟩:=o
 have hu:=ho.v
 have hx:=ho.x
 simp only at hu hx hK
 have hud:=hu.d
 refine spec_entry tbOk Tryz.func48 rfl Tryz.ntmps48 Tryz.results48 ?_
 unfold opA varA
 simp only[List.cons_append,List.nil_append]
 refine gg (k:= ?_)
 refine cmks (twin21_raw 0 u.d hud) Tryz.call96 0 [0,0,0,30] [0,0,0,1] [3] ?_
 refine gg (k:= ?_))
 subst hK
 refine gg (k:= ?_)
 refine cmks (hG) Tryz.call44 (hon:=rowu) 6 [0,1,2,3,4,5] [0,0,0,0,0,0] [] ?_
 unfold varA
 refine gg (k:= ?_)
 refine cmks (twin21_nil) Tryz.call96 0 [] [] [] ?_
 refine gg (k:= ?_)
 (refine sts (k:= ?_))
 conv=>whnf
 refine loop_at (fun i:Nat=>i=0) (fun i=>0) 6 [13,49,50,51,52,53,54,55,56,57,58,59] (fun i=>[(13,.val (.int .i64 0))]) (fun i=>[]) 0 rfl ?_ ?_ ?_
 ·exact no_implicit_lambda%ten
 ·exact no_implicit_lambda%hen
 ·rintro i v i1
  refine glp (k:= ?_)
  refine gg (k:= ?_)
  exact⟨_,rfl,rfl,trivial⟩
theorem doesF_get(s:FlS)(o:OpV)(ho:o.Ok)(hK:o.K=0)(vk vs va vb v0 v1:Nat)(r:VarV)(hrd:r.d.length≤1000000)(hG:Spec Tryz.prog 44 [.ref 0 vk 1 0 0,.val (.string o.v.nm),.agg (bytesA 16 o.v.g)] [⟨vk,.obj [.ref 1 vs 3 0 0]⟩,⟨vs,.obj [.ref 4 v0 6 0 0,.ref 2 va 3 0 0,.ref 3 vb 3 0 0]⟩,⟨va,.obj [.ref 4 v0 6 0 0,.val (.int .i64 ((0:Nat):Int)),.val (.int .i64 (1:Int))]⟩,⟨vb,.obj [.ref 4 v0 6 0 0,.val (.int .i64 (1:Int)),.val (.int .i64 (1:Int))]⟩,⟨v0,.obj [.own 5 v1 1 0 s.l.length,.val (.int .i64 (s.k:Int)),.val (.int .i64 s.ar),.val (.int .i64 s.pt),.val (.bool s.dd),.val (.int .i64 s.wr)]⟩,⟨v1,.bytes s.l⟩] (pms (.tup [.agg (varA (.own 54 4 1 0 r.d.length) r),.val (.bool true),.val (.int .i64 0)]) [⟨vk,.obj [.ref 1 vs 3 0 0]⟩,⟨vs,.obj [.ref 4 v0 6 0 0,.ref 2 va 3 0 0,.ref 3 vb 3 0 0]⟩,⟨va,.obj [.ref 4 v0 6 0 0,.val (.int .i64 ((0:Nat):Int)),.val (.int .i64 (1:Int))]⟩,⟨vb,.obj [.ref 4 v0 6 0 0,.val (.int .i64 (1:Int)),.val (.int .i64 (1:Int))]⟩,⟨v0,.obj [.own 5 v1 1 0 s.l.length,.val (.int .i64 (s.k:Int)),.val (.int .i64 s.ar),.val (.int .i64 s.pt),.val (.bool s.dd),.val (.int .i64 s.wr)]⟩,⟨v1,.bytes s.l⟩] [(54,⟨4,.bytes r.d⟩)])):Spec Tryz.prog 48 [.ref 4 v0 6 0 0,.ref 0 vk 1 0 0,.agg (opA o)] [⟨vk,.obj [.ref 1 vs 3 0 0]⟩,⟨vs,.obj [.ref 4 v0 6 0 0,.ref 2 va 3 0 0,.ref 3 vb 3 0 0]⟩,⟨va,.obj [.ref 4 v0 6 0 0,.val (.int .i64 ((0:Nat):Int)),.val (.int .i64 (1:Int))]⟩,⟨vb,.obj [.ref 4 v0 6 0 0,.val (.int .i64 (1:Int)),.val (.int .i64 (1:Int))]⟩,⟨v0,.obj [.own 5 v1 1 0 s.l.length,.val (.int .i64 (s.k:Int)),.val (.int .i64 s.ar),.val (.int .i64 s.pt),.val (.bool s.dd),.val (.int .i64 s.wr)]⟩,⟨v1,.bytes s.l⟩] (pms (.tup [.agg (toldA (.bs 0 r.d) r 0 true 0),.ref 0 vk 1 0 0]) [⟨vk,.obj [.ref 1 vs 3 0 0]⟩,⟨vs,.obj [.ref 4 v0 6 0 0,.ref 2 va 3 0 0,.ref 3 vb 3 0 0]⟩,⟨va,.obj [.ref 4 v0 6 0 0,.val (.int .i64 ((0:Nat):Int)),.val (.int .i64 (1:Int))]⟩,⟨vb,.obj [.ref 4 v0 6 0 0,.val (.int .i64 (1:Int)),.val (.int .i64 (1:Int))]⟩,⟨v0,.obj [.own 5 v1 1 0 s.l.length,.val (.int .i64 (s.k:Int)),.val (.int .i64 s.ar),.val (.int .i64 s.pt),.val (.bool s.dd),.val (.int .i64 s.wr)]⟩,⟨v1,.bytes s.l⟩] []):=by
 (
 obtain⟨K,u,x⟩:=o
 have hu:=ho.v
 have hx:=ho.x
 simp only at hu hx hK
 have hud:=hu.d
 refine spec_entry tbOk Tryz.func48 rfl Tryz.ntmps48 Tryz.results48 ?_
 unfold opA varA
 simp only[List.cons_append,List.nil_append]
 refine gg (k:= ?_)
 refine cmks (twin21_raw 0 u.d hud) Tryz.call96 0 [0,0,0,30] [0,0,0,1] [3] ?_
 refine gg (k:= ?_))
 subst hK
 refine gg (k:= ?_)
 refine cmks (hG) Tryz.call44 (hon:=rowu) 6 [0,1,2,3,4,5,0,0,0,0,0,0,0,0,0,0,0,0,0,0,0,0,0,0,0,0,0,0,0,0,0,0,0,0,0,0,0,0,0,0,0,0,0,0,0,0,0,0,0,0,0,0,0,0,42] [0,0,0,0,0,0,0,0,0,0,0,0,0,0,0,0,0,0,0,0,0,0,0,0,0,0,0,0,0,0,0,0,0,0,0,0,0,0,0,0,0,0,0,0,0,0,0,0,0,0,0,0,0,0,1] [54] ?_
 unfold varA
 refine gg (k:= ?_)
 refine cmks (twin21_own r.d (by omega) r.d.length rfl 5) Tryz.call96 1 [42] [0] [] ?_
 refine gg (k:= ?_)
 simp only[takeL,dropL,List.map_cons,List.map_nil,List.nil_append,List.cons_append,List.append_eq,List.length_cons,List.length_nil,Nat.reduceAdd,putA]
 (refine sts (k:= ?_))
 conv=>whnf
 refine loop_at (fun y:Nat×List UInt8=>y.1≤r.d.length∧y.2.length=r.d.length) (fun y=>r.d.length - y.1) 6 [13,49,50,51,52,53,54,55,56,57,58,59] (fun y=>[(13,.val (.int .i64 (y.1:Int)))]) (fun y=>[(42,⟨5,.bytes y.2⟩)]) (0,r.d) ⟨Nat.zero_le _,rfl⟩ ?_ ?_ ?_
 ·exact no_implicit_lambda%ten
 ·exact no_implicit_lambda%hen
 ·rintro⟨i,w⟩ z ⟨u1,u2⟩
  simp only at u1 u2
  refine glp (k:= ?_)
  refine gg (k:= ?_)
  refine⟨fun h=> ?_,fun h=> ?_⟩
  ·have hlt:i<r.d.length:=by have:=of_decide_eq_true h;omega
   refine gg (k:= ?_)
   refine back_at (i+1,w.set (0+(i:Int).toNat) (UInt8.ofNat (Int.toNat 85))) ⟨hlt,by simp[u2]⟩ (by show r.d.length - (i+1)<r.d.length - i;omega) ?_ ?_
   ·exact no_implicit_lambda%ten
   ·exact no_implicit_lambda%hen
  ·refine gg (k:= ?_)
   exact⟨_,rfl,rfl,trivial⟩
theorem doesF_again {W : Int} {n k : Nat} (s : FlS) (go : Goes W n k s) (hW : W ≤ 1000000000000000) (pa : Lies n k 0 1) (pb : Lies n k 1 1) (hn : n = 2 * 1 * k) (hd : s.dd = false) (h0 : (s.opn 1).1 = 0) (o : OpV) (ho : o.Ok) (hK : o.K = 6) (vk vs va vb v0 v1 : Nat) :
    Spec Tryz.prog 48 [.ref 4 v0 6 0 0,.ref 0 vk 1 0 0,.agg (opA o)] [⟨vk,.obj [.ref 1 vs 3 0 0]⟩,⟨vs,.obj [.ref 4 v0 6 0 0,.ref 2 va 3 0 0,.ref 3 vb 3 0 0]⟩,⟨va,.obj [.ref 4 v0 6 0 0,.val (.int .i64 ((0:Nat):Int)),.val (.int .i64 (1:Int))]⟩,⟨vb,.obj [.ref 4 v0 6 0 0,.val (.int .i64 (1:Int)),.val (.int .i64 (1:Int))]⟩,⟨v0,.obj [.own 5 v1 1 0 s.l.length,.val (.int .i64 (s.k:Int)),.val (.int .i64 s.ar),.val (.int .i64 s.pt),.val (.bool s.dd),.val (.int .i64 s.wr)]⟩,⟨v1,.bytes s.l⟩] (pms (.tup [.agg (toldA (.val (.slice none 0 0)) varZ 0 false 0),.ref 0 (1+(vk+1)) 1 0 0]) [⟨(1+(vk+1)),.obj [.ref 1 (2+(vs+1)) 3 0 0]⟩,⟨(2+(vs+1)),.obj [.ref 4 v0 6 0 0,.ref 2 (3+(va+1)) 3 0 0,.ref 3 (3+(vb+1)) 3 0 0]⟩,⟨(3+(va+1)),.obj [.ref 4 v0 6 0 0,.val (.int .i64 ((0:Nat):Int)),.val (.int .i64 (1:Int))]⟩,⟨(3+(vb+1)),.obj [.ref 4 v0 6 0 0,.val (.int .i64 (1:Int)),.val (.int .i64 (1:Int))]⟩,⟨v0,.obj [.own 5 v1 1 0 (s.opn 1).2.l.length,.val (.int .i64 ((s.opn 1).2.k:Int)),.val (.int .i64 (s.opn 1).2.ar),.val (.int .i64 (s.opn 1).2.pt),.val (.bool (s.opn 1).2.dd),.val (.int .i64 (s.opn 1).2.wr)]⟩,⟨v1,.bytes (s.opn 1).2.l⟩] []):=by
 have hop:=kopen_vc s 1 go hW pa pb hn hd h0 v0 v1
 generalize s.opn 1=T at hop⊢
 (
 obtain⟨K,u,x⟩:=o
 have hu:=ho.v
 have hx:=ho.x
 simp only at hu hx hK
 have hud:=hu.d
 refine spec_entry tbOk Tryz.func48 rfl Tryz.ntmps48 Tryz.results48 ?_
 unfold opA varA
 simp only[List.cons_append,List.nil_append]
 refine gg (k:= ?_)
 refine cmks (twin21_raw 0 u.d hud) Tryz.call96 0 [0,0,0,30] [0,0,0,1] [3] ?_
 refine gg (k:= ?_))
 subst hK
 refine gg (k:= ?_)
 refine cmks (hop) Tryz.call58 (had:=⟨⟨_,rfl,Nat.lt_succ_self vk⟩,⟨_,rfl,Nat.lt_succ_self vs⟩,⟨_,rfl,Nat.lt_succ_self va⟩,⟨_,rfl,Nat.lt_succ_self vb⟩,trivial⟩) (hz:=fun r hr=>by match r,hr with | 0,_=>rfl | 1,_=>rfl) 2 [4,5,0,0,0,0,0,0,0,0,1,2,3,0,0,0,0,0,0] [0,0,0,0,0,0,0,0,0,0,(vs+1),(va+1),(vb+1),0,0,0,0,0,(vk+1)] [18,10,11,12] ?_
 refine gg (k:= ?_)
 exact⟨_,rfl,rfl,trivial⟩
end Go.Proofs.YtpbpiehcchannaaGreatDoor
namespace Go.Proofs.YtpbpiehcchannaaGreatDoor
open Go.RowKit
set_option linter.unusedVariables false
set_option linter.unusedSimpArgs false
set_option maxRecDepth 100000
set_option maxHeartbeats 1500000
theorem keyV_inj{a b:ByteArray}{g h:List UInt8}(hg:g.length=16)(hh:h.length=16)(e:keyV a g=keyV b h):a=b∧g=h:=by
 unfold keyV at e
 have e1:g=h:=by
  have:=congrArg (List.take 16) e
  rwa [List.take_left' hg,List.take_left' hh] at this
 have e2:a.data.toList=b.data.toList:=by
  have:=congrArg (List.drop 16) e
  rwa [List.drop_left' hg,List.drop_left' hh] at this
 exact⟨by rw[←strOf_toList a,e2,strOf_toList],e1⟩
theorem Goes.delK{B:Int}{n k:Nat}{s:FlS}(g:Goes B n k s)(c:Nat)(key:List UInt8):Goes (B+1) n k (s.del c key).2:=by
 unfold FlS.del
 split
 ·exact g.mono (by omega)
 ·split
  ·exact g.mono (by omega)
  ·exact g.kill _ _ _
theorem NB.del {s : FlS} {y i : Nat} {M : List RK} (h : NB s y i M) (key : List UInt8) :
    (s.del 1 key=(3,s)∧NB s y (i+1) M)∨(∃s',s.del 1 key=(0,s')∧NB s' y (i+1) (M.filter fun r=>r.key !=key)):=by
 obtain⟨G,h1,h2⟩:=h.ex
 have hgo:=h.go.delK 1 key
 obtain⟨a,b⟩:=h2.del key
 by_cases hf:∃r∈M,r.key=key
 ·obtain⟨s',e,n⟩:=b hf
  rw[e] at hgo
  refine .inr ⟨s',e,⟨G,by push_cast;omega,n⟩,hgo.mono (by push_cast;omega),fun r hr=>h.rc r (List.mem_filter.1 hr).1,?_⟩
  have:=List.length_filter_le (fun r:RK=>r.key !=key) M
  have:=h.len
  omega
 ·exact .inl ⟨a fun r hr e=>hf ⟨r,hr,e⟩,h.up⟩
theorem mark_ne{v:VarV}(hv:VOk v):kV v≠markK:=by
 intro e
 have hl:=congrArg List.length e
 unfold kV keyV at hl
 rw[List.length_append,hv.ok.g] at hl
 have:markK.length=4:=rfl
 omega
theorem kget_badK (s : FlS) (c : Nat) (nm : ByteArray) (hn : nm.size ≤ 140737488355328) (g : List UInt8) (hr : rightN nm = false) (vk vs va vb v0 v1 : Nat) : Spec Tryz.prog 44 [.ref 0 vk 1 0 0, .val (.string nm), .agg (bytesA 16 g)] [⟨vk, .obj [.ref 1 vs 3 0 0]⟩, ⟨vs, .obj [.ref 4 v0 6 0 0, .ref 2 va 3 0 0, .ref 3 vb 3 0 0]⟩, ⟨va, .obj [.ref 4 v0 6 0 0, .val (.int .i64 ((0 : Nat) : Int)), .val (.int .i64 (c : Int))]⟩, ⟨vb, .obj [.ref 4 v0 6 0 0, .val (.int .i64 (c : Int)), .val (.int .i64 (c : Int))]⟩, ⟨v0, .obj [.own 5 v1 1 0 s.l.length, .val (.int .i64 (s.k : Int)), .val (.int .i64 s.ar), .val (.int .i64 s.pt), .val (.bool s.dd), .val (.int .i64 s.wr)]⟩, ⟨v1, .bytes s.l⟩]
   (pms (.tup [.agg (varA (.val (.slice none 0 0)) varZ),.val (.bool false),.val (.int .i64 1)]) [⟨vk,.obj [.ref 1 vs 3 0 0]⟩,⟨vs,.obj [.ref 4 v0 6 0 0,.ref 2 va 3 0 0,.ref 3 vb 3 0 0]⟩,⟨va,.obj [.ref 4 v0 6 0 0,.val (.int .i64 ((0:Nat):Int)),.val (.int .i64 (c:Int))]⟩,⟨vb,.obj [.ref 4 v0 6 0 0,.val (.int .i64 (c:Int)),.val (.int .i64 (c:Int))]⟩,⟨v0,.obj [.own 5 v1 1 0 s.l.length,.val (.int .i64 (s.k:Int)),.val (.int .i64 s.ar),.val (.int .i64 s.pt),.val (.bool s.dd),.val (.int .i64 s.wr)]⟩,⟨v1,.bytes s.l⟩] []):=by
 have hKy:=key_no nm hn g hr
 refine spec_entry tbOk Tryz.func44 rfl Tryz.ntmps44 Tryz.results44 ?_
 refine gg (k:= ?_)
 refine cdet (hKy) Tryz.call97 (hon:=rowu) [] ?_
 refine gg (k:= ?_)
 exact⟨_,rfl,rfl,trivial⟩
theorem NB.there{s:FlS}{y i:Nat}{M:List RK}(h:NB s y i M){nm:ByteArray}{g:List UInt8}(hg:g.length=16)(hm:∃r∈M,r.key=keyV nm g):∃v,VOk v∧rcdV v∈M∧v.nm=nm∧v.g=g:=by
 obtain⟨r,hr,e⟩:=hm
 rcases h.rc r hr with⟨v,hv,rfl⟩ | ⟨x,rfl⟩
 ·obtain⟨e1,e2⟩:=keyV_inj hv.ok.g hg e
  exact⟨v,hv,hr,e1,e2⟩
 ·have:=congrArg List.length e
  unfold keyV at this
  rw[List.length_append,hg] at this
  have h4:markK.length=4:=rfl
  simp only at this
  omega
end Go.Proofs.YtpbpiehcchannaaGreatDoor
