/- Walks of lintelref09: last, store, used, counts, Room, now. Walks of lintelref09: counts, Room, now. Walks of lintelref09: copied. Conditions: the premises of each law. -/
import Derived.Test.YtpbpiehcchannaaGreatDoorJHu
import Derived.Test.YtpbpiehcchannaaGreatDoorJHo
import Derived.Test.YtpbpiehcchannaaGreatDoorJHp
import Derived.Test.YtpbpiehcchannaaGreatDoorJNv11
namespace Go.Proofs.YtpbpiehcchannaaGreatDoor
open Go.RowKit
set_option linter.unusedVariables false
set_option linter.unusedSimpArgs false
set_option maxRecDepth 100000
set_option maxHeartbeats 1500000
theorem mc(z z':Nat)(l:List RK)(key:List UInt8)(hl:l.length≤140737488355328):Spec Tryz.prog 133 [.sl z 3 (eY z) bl l,.bs z' key] [] (ak (.val (.int .i64 (aJ l key))) [] []):=by
 refine aq aj Tryz.func133 rfl Tryz.ntmps133 Tryz.results133 ?_
 refine gg (k:= ?_)
 (refine ax (k:= ?_))
 conv=>whnf
 refine bh (fun m:Nat=>m≤l.length) (fun m=>l.length - m) 0 [5,6,7,8,9,10,11,12,13,14,15,16,17,18,19,20,21,22,23,24,25,26,27,28,29] (fun m=>[(5,.val (.int .i64 (eQ l key m))),(6,.val (.int .i64 (m:Int)))]) (fun m=>[]) 0 (Nat.zero_le _) ?_ ?_ ?_
 ·exact no_implicit_lambda%ten
 ·exact no_implicit_lambda%az
 ·rintro m v i1
  have hL:=n4 l key m
  refine bc (k:= ?_)
  refine gg (k:= ?_)
  refine⟨fun h=> ?_,fun h=> ?_⟩
  ·have j4:m<l.length:=by have:=of_decide_eq_true h;omega
   have df:eQ l key (m+1)=if(l.getD m bl).lv=true∧(l.getD m bl).key=key then(m:Int) else eQ l key m:=rfl
   generalize fG:l.getD m bl=x at df
   obtain⟨xk,xv,xl⟩:=x
   simp only at df
   refine gg (k:= ?_)
   (refine ax (k:= ?_))
   refine bz (p:=0) aj hm [0,0,3,7,15,31,63,63,255,511,1023,2047,63,4159,16383,32767] [⟨0,false,false,[]⟩,⟨1,false,false,[]⟩,⟨2,true,false,[16,17,18,19,20,21,22,23,24,25,26,27,28]⟩,⟨3,true,false,[17,18,19,20,21,22,23,24,25,26,27,28]⟩,⟨4,true,false,[18,19,20,21,22,23,24,25,26,27,28]⟩,⟨5,false,false,[]⟩,⟨6,false,false,[]⟩,⟨7,false,false,[]⟩,⟨8,true,false,[22,23,24,25,26,27,28]⟩,⟨9,true,false,[23,24,25,26,27,28]⟩,⟨10,true,false,[24,25,26,27,28]⟩,⟨11,true,false,[25,26,27,28]⟩,⟨12,false,false,[]⟩,⟨13,true,false,[19,20,21,22,23,24,27,28]⟩,⟨14,false,false,[]⟩,⟨15,false,false,[]⟩] (by kernel_rfl) ?_
   refine gg (k:= ?_)
   simp only[Int.toNat_natCast,fG]
   cases xl with
   | false=>
    rw[if_neg (by simp)] at df
    refine gg (k:= ?_)
    (try simp only[Int.toNat_natCast,fG])
    refine gg (k:= ?_)
    refine aM (m+1) j4 (by show l.length - (m+1)<l.length - m;omega) ?_ ?_
    ·dsimp only[dt,hY,hZ,aH]
     rw[df]
     exact no_implicit_lambda%ten
    ·exact no_implicit_lambda%az
   | true=>
    refine gg (k:= ?_)
    rw[Bool.true_and,vo]
    by_cases cC:xk=key
    ·rw[if_pos ⟨rfl,cC⟩] at df
     rw[decide_eq_true cC]
     refine gg (k:= ?_)
     refine aM (m+1) j4 (by show l.length - (m+1)<l.length - m;omega) ?_ ?_
     ·dsimp only[dt,hY,hZ,aH]
      rw[df]
      exact no_implicit_lambda%ten
     ·exact no_implicit_lambda%az
    ·rw[if_neg (fun q=>cC q.2)] at df
     rw[decide_eq_false cC]
     refine gg (k:= ?_)
     refine aM (m+1) j4 (by show l.length - (m+1)<l.length - m;omega) ?_ ?_
     ·dsimp only[dt,hY,hZ,aH]
      rw[df]
      exact no_implicit_lambda%ten
     ·exact no_implicit_lambda%az
  ·obtain rfl:m=l.length:=by have:=of_decide_eq_false h;omega
   refine gg (k:= ?_)
   exact⟨_,rfl,rfl,trivial⟩
theorem FV(z:Nat)(l:List RK)(hb:bw l≤4611686018427387000)(hl:l.length≤140737488355328):Spec Tryz.prog 136 [.sl z 3 (eY z) bl l] [] (ak (.val (.int .i64 (bw l:Nat))) [] []):=by
 refine aq aj Tryz.func136 rfl Tryz.ntmps136 Tryz.results136 ?_
 refine gg (k:= ?_)
 (refine ax (k:= ?_))
 conv=>whnf
 refine bh (fun m:Nat=>m≤l.length) (fun m=>l.length - m) 0 [3,4,5,6,7,8,9,10,11,12,13,14,15,16,17,18,19,20,21,22,23,24,25] (fun m=>[(3,.val (.int .i64 (bw (l.take m):Nat))),(4,.val (.int .i64 (m:Int)))]) (fun m=>[]) 0 (Nat.zero_le _) ?_ ?_ ?_
 ·exact no_implicit_lambda%ten
 ·exact no_implicit_lambda%az
 ·rintro m v i1
  have Qs:=zR l m
  refine bc (k:= ?_)
  refine gg (k:= ?_)
  refine⟨fun h=> ?_,fun h=> ?_⟩
  ·have j4:m<l.length:=by have:=of_decide_eq_true h;omega
   have df:=E4 l m j4
   have A6:=zR l (m+1)
   generalize fG:l.getD m bl=x at df
   obtain⟨xk,xv,xl⟩:=x
   simp only at df
   refine gg (k:= ?_)
   (refine ax (k:= ?_))
   refine bz (p:=0) aj hm [0,0,0,6,14,30,62,0,0,384,896,1920,3968,8190,16383,32767] [⟨0,false,false,[]⟩,⟨1,false,false,[]⟩,⟨2,false,false,[]⟩,⟨3,true,false,[11,15,16,17,18,19,20,21,22,23,24,25,3]⟩,⟨4,true,false,[11,16,17,18,19,20,21,22,23,24,25,3]⟩,⟨5,true,false,[11,17,18,19,20,21,22,23,24,25,3]⟩,⟨6,true,false,[11,18,19,20,21,22,23,24,25,3]⟩,⟨7,false,false,[]⟩,⟨8,false,false,[]⟩,⟨9,true,false,[11,12,13,14,15,16,17,21,22,23,24,25,3]⟩,⟨10,true,false,[11,12,13,14,15,16,17,22,23,24,25,3]⟩,⟨11,true,false,[11,12,13,14,15,16,17,23,24,25,3]⟩,⟨12,true,false,[11,12,13,14,15,16,17,24,25,3]⟩,⟨13,true,false,[11,25,3]⟩,⟨14,false,false,[]⟩,⟨15,false,false,[]⟩] (by kernel_rfl) ?_
   refine gg (k:= ?_)
   simp only[Int.toNat_natCast,fG]
   refine gg (k:= ?_)
   refine aP (ru xk.length xv.length (by omega) (by omega)) Tryz.call76 [] ?_
   refine gg (k:= ?_)
   refine aM (m+1) j4 (by show l.length - (m+1)<l.length - m;omega) ?_ ?_
   ·dsimp only[dt,hY,hZ,aH]
    rw[show((bw (l.take m):Nat):Int)+((12:Int)+(xk.length:Int)+(xv.length:Int))=((bw (l.take (m+1)):Nat):Int) by omega]
    exact no_implicit_lambda%ten
   ·exact no_implicit_lambda%az
  ·obtain rfl:m=l.length:=by have:=of_decide_eq_false h;omega
   rw[List.take_length]
   refine gg (k:= ?_)
   exact⟨_,rfl,rfl,trivial⟩
theorem tt(l:List RK)(key:List UInt8)(hl:l.length≤140737488355328):Spec Tryz.prog 133 [.sl 0 3 (eY 0) bl l,.bs 0 key] [] (bY (.val (.int .i64 (aJ l key))) []):=jZ (mc 0 0 l key hl) fun X H h=>by
 obtain⟨q,h1,h2,_⟩:=h
 exact⟨q,h1,h2⟩
def gS(l:List RK)(m:Nat):List RK:=(dI l m).map fun j=>l.getD j bl
theorem NC(l:List RK)(m:Nat):gS l (m+1)=gS l m++if dV l m then[l.getD m bl] else[]:=by
 unfold gS
 rw[re,List.map_append]
 split<;>rfl
theorem ND(l:List RK)(m:Nat):(gS l m).length≤m:=by
 unfold gS;rw[List.length_map];exact rf l m
theorem tu(l:List RK)(hl:l.length≤4194304):Spec Tryz.prog 137 [.sl 0 3 (eY 0) bl l] [] (ak (.sl 0 3 (eY 0) bl (bm l)) [] []):=by
 have h:Spec Tryz.prog 137 [.sl 0 3 (eY 0) bl l] [] (ak (.own 33 ((gS l l.length).length+1) 3 0 (gS l l.length).length) [] [(33,⟨(gS l l.length).length+1,.row 3 (eY 0) bl (gS l l.length)⟩)]):=by
  refine aq aj Tryz.func137 rfl Tryz.ntmps137 Tryz.results137 ?_
  refine gg (k:= ?_)
  (refine ax (k:= ?_))
  conv=>whnf
  refine lW (ia 33 1 (.row 3 (eY 0) bl []) rfl (by decide) rfl (ta 3 (k:=3) rfl)) ?_
  dsimp only[aH]
  refine bh (fun m:Nat=>m≤l.length) (fun m=>l.length - m) 0 [3,4,5,6,7,8,9,10,11,12,13,14,15,16,17,18,19,20,21,22,23,24,25,26,27,28,29,30,31,32,33] (fun m=>[(3,.own 33 ((gS l m).length+1) 3 0 (gS l m).length),(4,.val (.int .i64 (m:Int)))]) (fun m=>[(33,⟨(gS l m).length+1,.row 3 (eY 0) bl (gS l m)⟩)]) 0 (Nat.zero_le _) ?_ ?_ ?_
  ·exact no_implicit_lambda%ten
  ·exact no_implicit_lambda%az
  ·rintro m v i1
   have cE:=ND l m
   refine bc (k:= ?_)
   refine gg (k:= ?_)
   refine⟨fun h=> ?_,fun h=> ?_⟩
   ·have j4:m<l.length:=by have:=of_decide_eq_true h;omega
    have df:=NC l m
    have dM:dV l m=decide (aJ l (l.getD m bl).key=(m:Int)):=rfl
    have rj:aJ l (l.getD m bl).key=(m:Int)→(l.getD m bl).lv=true:=fun q=>by
     obtain⟨_,q2,_⟩:=mT _ _ _ _ q
     exact q2
    generalize fG:l.getD m bl=x at df dM rj
    obtain⟨xk,xv,xl⟩:=x
    simp only at df dM rj
    refine gg (k:= ?_)
    simp only[Int.toNat_natCast,fG]
    cases xl with
    | false=>
     rw[show dV l m=false by rw[dM];exact decide_eq_false (fun q=>by have:=rj q;simp at this)] at df
     simp only[Bool.false_eq_true,if_false,List.append_nil] at df
     refine gg (k:= ?_)
     (try simp only[Int.toNat_natCast,fG])
     refine gg (k:= ?_)
     intro _
     refine gg (k:= ?_)
     refine aM (m+1) j4 (by show l.length - (m+1)<l.length - m;omega) ?_ ?_
     ·dsimp only[dt,hY,hZ,aH]
      rw[df]
      exact no_implicit_lambda%ten
     ·dsimp only[dt,jA,jB,aH,Nat.reduceAdd,Nat.zero_add]
      rw[df]
      exact no_implicit_lambda%az
    | true=>
     refine gg (k:= ?_)
     (try simp only[Int.toNat_natCast,fG])
     refine gg (k:= ?_)
     refine aP (tt l xk (by omega)) Tryz.call133 [] (hon:=⟨fun _=>⟨trivial,trivial,trivial,trivial⟩,trivial,trivial⟩) ?_
     by_cases cC:aJ l xk=(m:Int)
     ·rw[show dV l m=true by rw[dM];exact decide_eq_true cC,if_pos rfl] at df
      rw[cC]
      refine gg (k:= ?_)
      rw[decide_eq_true (rfl:(m:Int)=(m:Int))]
      refine gg (k:= ?_)
      simp only[Int.toNat_natCast,fG]
      refine gg (k:= ?_)
      have Ar:(gS l (m+1)).length=(gS l m).length+1:=by rw[df];simp
      conv=>whnf
      refine⟨RK,eY 0,bl,gS l (m+1),?_⟩
      conv=>whnf
      refine And.intro ?_ ?_
      ·refine⟨rfl,⟨rfl,rfl,Nat.le_refl _,fun q hq=>(by(have ig:q=0:=by simpa using hq);subst ig;exact⟨trivial,trivial,rfl,trivial⟩)⟩,rfl,rfl,rfl,rfl,.inr rfl,?_,?_,by decide⟩
       ·rw[df,List.map_append];rfl
       ·rw[Ar]
        show((gS l m).length+1)*56≤_
        omega
      refine gg (k:= ?_)
      refine aM (m+1) j4 (by show l.length - (m+1)<l.length - m;omega) ?_ ?_
      ·dsimp only[dt,hY,hZ,aH]
       rw[Ar]
       exact no_implicit_lambda%ten
      ·dsimp only[dt,jA,jB,aH,Nat.reduceAdd,Nat.zero_add]
       rw[Ar]
       exact no_implicit_lambda%az
     ·rw[show dV l m=false by rw[dM];exact decide_eq_false cC] at df
      simp only[Bool.false_eq_true,if_false,List.append_nil] at df
      have hd:decide (aJ l xk=(m:Int))=false:=decide_eq_false cC
      refine gg (k:= ?_)
      rw[hd]
      refine gg (k:= ?_)
      refine aM (m+1) j4 (by show l.length - (m+1)<l.length - m;omega) ?_ ?_
      ·dsimp only[dt,hY,hZ,aH]
       rw[df]
       exact no_implicit_lambda%ten
      ·dsimp only[dt,jA,jB,aH,Nat.reduceAdd,Nat.zero_add]
       rw[df]
       exact no_implicit_lambda%az
   ·obtain rfl:m=l.length:=by have:=of_decide_eq_false h;omega
    refine gg (k:= ?_)
    exact⟨_,rfl,rfl,rfl,trivial⟩
 exact br h (by simp[ef]) (AF.s9 rfl rfl rfl fun i x y h1 h2=>by rw[show gS l l.length=bm l from rfl,h2] at h1;obtain rfl:=Option.some.inj h1;exact af.cons AF.same (af.cons AF.same (af.cons AF.same af.nil))) trivial
end Go.Proofs.YtpbpiehcchannaaGreatDoor
namespace Go.Proofs.YtpbpiehcchannaaGreatDoor
open Go.RowKit
set_option linter.unusedVariables false
set_option linter.unusedSimpArgs false
set_option maxRecDepth 100000
set_option maxHeartbeats 1500000
def kc(s:J)(c va vb:Nat):AV:= .al (if(s.aI c).1=1 then[.ref 2 vb 3 0 0,.ref 1 va 3 0 0,.val (.int .u32 (s.aI c).2.1),.val (.bool (s.aI c).2.2)] else[.ref 1 va 3 0 0,.ref 2 vb 3 0 0,.val (.int .u32 (s.aI c).2.1),.val (.bool (s.aI c).2.2)])
theorem nc {W : Int} {n k X : Nat} (s : J) (c : Nat) (g : av W n k s) (pa : aC n k 0 c) (pb : aC n k c c) (vs va vb v0 v1 : Nat) : Spec Tryz.prog 129 [.ref 0 vs 3 0 0] [⟨vs, .obj [.ref 3 v0 7 0 0, .ref 1 va 3 0 0, .ref 2 vb 3 0 0]⟩, ⟨va, .obj [.ref 3 v0 7 0 0, .val (.int .i64 ((0 : Nat) : Int)), .val (.int .i64 (c : Int))]⟩, ⟨vb, .obj [.ref 3 v0 7 0 0, .val (.int .i64 (c : Int)), .val (.int .i64 (c : Int))]⟩, ⟨v0, .obj [.own 4 v1 1 0 s.l.length, .val (.int .i64 (X : Int)), .val (.int .i64 (s.k : Int)), .val (.int .i64 s.ar), .val (.int .i64 s.pt), .val (.bool s.dd), .val (.int .i64 s.wr)]⟩, ⟨v1, .bytes s.l⟩]
   (ak (kc s c va vb) [⟨vs,.obj [.ref 3 v0 7 0 0,.ref 1 va 3 0 0,.ref 2 vb 3 0 0]⟩,⟨va,.obj [.ref 3 v0 7 0 0,.val (.int .i64 ((0:Nat):Int)),.val (.int .i64 (c:Int))]⟩,⟨vb,.obj [.ref 3 v0 7 0 0,.val (.int .i64 (c:Int)),.val (.int .i64 (c:Int))]⟩,⟨v0,.obj [.own 4 v1 1 0 s.l.length,.val (.int .i64 (X:Int)),.val (.int .i64 (s.k:Int)),.val (.int .i64 s.ar),.val (.int .i64 s.pt),.val (.bool s.dd),.val (.int .i64 s.wr)]⟩,⟨v1,.bytes s.l⟩] []):=by
 refine aq aj Tryz.func129 rfl Tryz.ntmps129 Tryz.results129 ?_
 have k9:=FG (X:=X) s 0 c g pa va v0 v1
 have eo:=FG (X:=X) s c c g pb vb v0 v1
 unfold kc J.aI
 generalize s.head 0=h0 at k9⊢
 generalize s.head c=h1 at eo⊢
 obtain⟨g0,r0,e0⟩:=h0
 obtain⟨g1,r1,e1⟩:=h1
 simp only at k9 eo⊢
 refine gg (k:= ?_)
 refine ae (k9) Tryz.call170 3 [1,3,4] [0,0,0] [] ?_
 refine gg (k:= ?_)
 refine ae (eo) Tryz.call170 3 [2,3,4] [0,0,0] [] ?_
 refine gg (k:= ?_)
 cases r1 with
 | false=>
  rw[if_neg (by simp)]
  refine gg (k:= ?_)
  (
 (refine ax (k:= ?_))
 refine bz (p:=5) aj hm [0,1,3,7,0,16,48,112,0,0,15,1279,3583,8191] [⟨0,false,false,[]⟩,⟨1,true,false,[51,52,53,54,55,56,57,58,2,3,4,5]⟩,⟨2,true,false,[52,53,54,55,56,57,58,2,3,4,5]⟩,⟨3,true,false,[53,54,55,56,57,58,2,3,4,5]⟩,⟨4,false,false,[]⟩,⟨5,true,false,[49,50,51,52,55,56,57,58,2,3,4,5]⟩,⟨6,true,false,[49,50,51,52,56,57,58,2,3,4,5]⟩,⟨7,true,false,[49,50,51,52,57,58,2,3,4,5]⟩,⟨8,false,false,[]⟩,⟨9,false,false,[]⟩,⟨10,false,false,[]⟩,⟨11,false,false,[]⟩,⟨12,false,false,[]⟩,⟨13,false,false,[]⟩] (by kernel_rfl) ?_
 refine gg (k:= ?_)
 exact⟨_,rfl,rfl,trivial⟩)
 | true=>
 cases r0 with
 | false=>
  rw[if_pos (by simp)]
  refine gg (k:= ?_)
  refine⟨fun _=> ?_,fun h=>absurd h (by simp)⟩
  refine gg (k:= ?_)
  (
 (refine ax (k:= ?_))
 refine bz (p:=5) aj hm [0,1,3,7,0,16,48,112,0,15,767,2047,4095] [⟨0,false,false,[]⟩,⟨1,true,false,[42,43,44,45,46,47,48,2,3,4,5]⟩,⟨2,true,false,[43,44,45,46,47,48,2,3,4,5]⟩,⟨3,true,false,[44,45,46,47,48,2,3,4,5]⟩,⟨4,false,false,[]⟩,⟨5,true,false,[40,41,42,43,46,47,48,2,3,4,5]⟩,⟨6,true,false,[40,41,42,43,47,48,2,3,4,5]⟩,⟨7,true,false,[40,41,42,43,48,2,3,4,5]⟩,⟨8,false,false,[]⟩,⟨9,false,false,[]⟩,⟨10,false,false,[]⟩,⟨11,false,false,[]⟩,⟨12,false,false,[]⟩] (by kernel_rfl) ?_
 refine gg (k:= ?_)
 exact⟨_,rfl,rfl,trivial⟩)
 | true=>
  by_cases ai:g0<g1
  ·rw[show(if true=true∧(true=false∨g0<g1) then((1:Nat),g1,true) else(0,g0,true))=(1,g1,true) from if_pos ⟨rfl,.inr ai⟩]
   simp only[if_true]
   refine gg (k:= ?_)
   rw[decide_eq_true ai]
   refine⟨fun _=> ?_,fun h=>absurd h (by simp)⟩
   refine gg (k:= ?_)
   (
 (refine ax (k:= ?_))
 refine bz (p:=5) aj hm [0,1,3,7,0,16,48,112,0,15,767,2047,4095] [⟨0,false,false,[]⟩,⟨1,true,false,[42,43,44,45,46,47,48,2,3,4,5]⟩,⟨2,true,false,[43,44,45,46,47,48,2,3,4,5]⟩,⟨3,true,false,[44,45,46,47,48,2,3,4,5]⟩,⟨4,false,false,[]⟩,⟨5,true,false,[40,41,42,43,46,47,48,2,3,4,5]⟩,⟨6,true,false,[40,41,42,43,47,48,2,3,4,5]⟩,⟨7,true,false,[40,41,42,43,48,2,3,4,5]⟩,⟨8,false,false,[]⟩,⟨9,false,false,[]⟩,⟨10,false,false,[]⟩,⟨11,false,false,[]⟩,⟨12,false,false,[]⟩] (by kernel_rfl) ?_
 refine gg (k:= ?_)
 exact⟨_,rfl,rfl,trivial⟩)
  ·rw[show(if true=true∧(true=false∨g0<g1) then((1:Nat),g1,true) else(0,g0,true))=(0,g0,true) from if_neg (by simp;exact Int.not_lt.1 ai)]
   rw[if_neg (by simp)]
   refine gg (k:= ?_)
   rw[decide_eq_false ai]
   refine⟨fun h=>absurd h (by simp),fun _=> ?_⟩
   refine gg (k:= ?_)
   (
 (refine ax (k:= ?_))
 refine bz (p:=5) aj hm [0,1,3,7,0,16,48,112,0,0,15,1279,3583,8191] [⟨0,false,false,[]⟩,⟨1,true,false,[51,52,53,54,55,56,57,58,2,3,4,5]⟩,⟨2,true,false,[52,53,54,55,56,57,58,2,3,4,5]⟩,⟨3,true,false,[53,54,55,56,57,58,2,3,4,5]⟩,⟨4,false,false,[]⟩,⟨5,true,false,[49,50,51,52,55,56,57,58,2,3,4,5]⟩,⟨6,true,false,[49,50,51,52,56,57,58,2,3,4,5]⟩,⟨7,true,false,[49,50,51,52,57,58,2,3,4,5]⟩,⟨8,false,false,[]⟩,⟨9,false,false,[]⟩,⟨10,false,false,[]⟩,⟨11,false,false,[]⟩,⟨12,false,false,[]⟩,⟨13,false,false,[]⟩] (by kernel_rfl) ?_
 refine gg (k:= ?_)
 exact⟨_,rfl,rfl,trivial⟩)
theorem tw {W : Int} {n k X : Nat} (s : J) (c : Nat) (g : av W n k s) (pa : aC n k 0 c) (vs va vb v0 v1 : Nat) : Spec Tryz.prog 36 [.ref 0 vs 3 0 0] [⟨vs, .obj [.ref 3 v0 7 0 0, .ref 1 va 3 0 0, .ref 2 vb 3 0 0]⟩, ⟨va, .obj [.ref 3 v0 7 0 0, .val (.int .i64 ((0 : Nat) : Int)), .val (.int .i64 (c : Int))]⟩, ⟨vb, .obj [.ref 3 v0 7 0 0, .val (.int .i64 (c : Int)), .val (.int .i64 (c : Int))]⟩, ⟨v0, .obj [.own 4 v1 1 0 s.l.length, .val (.int .i64 (X : Int)), .val (.int .i64 (s.k : Int)), .val (.int .i64 s.ar), .val (.int .i64 s.pt), .val (.bool s.dd), .val (.int .i64 s.wr)]⟩, ⟨v1, .bytes s.l⟩]
   (ak (.val (.int .i64 ((c:Int)*s.k - 16))) [⟨vs,.obj [.ref 3 v0 7 0 0,.ref 1 va 3 0 0,.ref 2 vb 3 0 0]⟩,⟨va,.obj [.ref 3 v0 7 0 0,.val (.int .i64 ((0:Nat):Int)),.val (.int .i64 (c:Int))]⟩,⟨vb,.obj [.ref 3 v0 7 0 0,.val (.int .i64 (c:Int)),.val (.int .i64 (c:Int))]⟩,⟨v0,.obj [.own 4 v1 1 0 s.l.length,.val (.int .i64 (X:Int)),.val (.int .i64 (s.k:Int)),.val (.int .i64 s.ar),.val (.int .i64 s.pt),.val (.bool s.dd),.val (.int .i64 s.wr)]⟩,⟨v1,.bytes s.l⟩] []):=by
 have hb:=g.eZ pa
 refine aq aj Tryz.func36 rfl Tryz.ntmps36 Tryz.results36 ?_
 refine gg (k:= ?_)
 refine aP (M9 s 0 c hb va v0 v1) Tryz.call95 [1,3,4] ?_
 refine gg (k:= ?_)
 exact⟨_,rfl,rfl,trivial⟩
theorem tz {W : Int} {n k X : Nat} (s : J) (c : Nat) (hd : s.dd = true) (vs va vb v0 v1 : Nat) : Spec Tryz.prog 135 [.ref 0 vs 3 0 0] [⟨vs, .obj [.ref 3 v0 7 0 0, .ref 1 va 3 0 0, .ref 2 vb 3 0 0]⟩, ⟨va, .obj [.ref 3 v0 7 0 0, .val (.int .i64 ((0 : Nat) : Int)), .val (.int .i64 (c : Int))]⟩, ⟨vb, .obj [.ref 3 v0 7 0 0, .val (.int .i64 (c : Int)), .val (.int .i64 (c : Int))]⟩, ⟨v0, .obj [.own 4 v1 1 0 s.l.length, .val (.int .i64 (X : Int)), .val (.int .i64 (s.k : Int)), .val (.int .i64 s.ar), .val (.int .i64 s.pt), .val (.bool s.dd), .val (.int .i64 s.wr)]⟩, ⟨v1, .bytes s.l⟩]
   (ak (.al [.val (.slice none 0 0),.val (.int .i64 0),.val (.bool false),.val (.int .i64 6)]) [⟨vs,.obj [.ref 3 v0 7 0 0,.ref 1 va 3 0 0,.ref 2 vb 3 0 0]⟩,⟨va,.obj [.ref 3 v0 7 0 0,.val (.int .i64 ((0:Nat):Int)),.val (.int .i64 (c:Int))]⟩,⟨vb,.obj [.ref 3 v0 7 0 0,.val (.int .i64 (c:Int)),.val (.int .i64 (c:Int))]⟩,⟨v0,.obj [.own 4 v1 1 0 s.l.length,.val (.int .i64 (X:Int)),.val (.int .i64 (s.k:Int)),.val (.int .i64 s.ar),.val (.int .i64 s.pt),.val (.bool s.dd),.val (.int .i64 s.wr)]⟩,⟨v1,.bytes s.l⟩] []):=by
 refine aq aj Tryz.func135 rfl Tryz.ntmps135 Tryz.results135 ?_
 rw[hd]
 refine gg (k:= ?_)
 exact⟨_,rfl,rfl,trivial⟩
theorem wc:Spec Tryz.prog 135 [.val (.pointer none)] [] (ak (.al [.val (.slice none 0 0),.val (.int .i64 0),.val (.bool false),.val (.int .i64 2)]) [] []):=by
 refine aq aj Tryz.func135 rfl Tryz.ntmps135 Tryz.results135 ?_
 refine gg (k:= ?_)
 exact⟨_,rfl,rfl,trivial⟩
theorem ry {W : Int} {n k X : Nat} (s : J) (c : Nat) (g : av W n k s) (pa : aC n k 0 c) (pb : aC n k c c) (hd : s.dd = false) (vs va vb v0 v1 : Nat) : Spec Tryz.prog 135 [.ref 0 vs 3 0 0] [⟨vs, .obj [.ref 3 v0 7 0 0, .ref 1 va 3 0 0, .ref 2 vb 3 0 0]⟩, ⟨va, .obj [.ref 3 v0 7 0 0, .val (.int .i64 ((0 : Nat) : Int)), .val (.int .i64 (c : Int))]⟩, ⟨vb, .obj [.ref 3 v0 7 0 0, .val (.int .i64 (c : Int)), .val (.int .i64 (c : Int))]⟩, ⟨v0, .obj [.own 4 v1 1 0 s.l.length, .val (.int .i64 (X : Int)), .val (.int .i64 (s.k : Int)), .val (.int .i64 s.ar), .val (.int .i64 s.pt), .val (.bool s.dd), .val (.int .i64 s.wr)]⟩, ⟨v1, .bytes s.l⟩]
   (ak (.al [.sl 0 3 (eY 0) bl (s.au c),.val (.int .i64 ((s.be c).2.1:Int)),.val (.bool (s.be c).2.2),.val (.int .i64 0)]) [⟨vs,.obj [.ref 3 v0 7 0 0,.ref 1 va 3 0 0,.ref 2 vb 3 0 0]⟩,⟨va,.obj [.ref 3 v0 7 0 0,.val (.int .i64 ((0:Nat):Int)),.val (.int .i64 (c:Int))]⟩,⟨vb,.obj [.ref 3 v0 7 0 0,.val (.int .i64 (c:Int)),.val (.int .i64 (c:Int))]⟩,⟨v0,.obj [.own 4 v1 1 0 s.l.length,.val (.int .i64 (X:Int)),.val (.int .i64 (s.k:Int)),.val (.int .i64 s.ar),.val (.int .i64 s.pt),.val (.bool s.dd),.val (.int .i64 s.wr)]⟩,⟨v1,.bytes s.l⟩] []):=by
 have cH:=nc (X:=X) s c g pa pb vs va vb v0 v1
 unfold kc at cH
 refine aq aj Tryz.func135 rfl Tryz.ntmps135 Tryz.results135 ?_
 refine gg (k:= ?_)
 refine⟨fun h=>absurd (h.symm.trans hd) (by decide),fun _=> ?_⟩
 refine gg (k:= ?_)
 by_cases h1:(s.aI c).1=1
 ·rw[if_pos h1] at cH
  refine ae (cH) Tryz.call129 5 [0,1,2,3,4] [0,0,0,0,0] [] ?_
  have hR:s.scan c c=s.be c:=by unfold J.be;rw[h1,Nat.one_mul]
  unfold J.au
  rw[←hR]
  refine gg (k:= ?_)
  refine ae (kH (X:=X) s c c g pb hd vb v0 v1) Tryz.call132 (hX:=⟨fun _=>⟨trivial,trivial,trivial,trivial⟩,trivial,trivial,trivial,trivial⟩) 3 [2,3,4] [0,0,0] [] ?_
  refine gg (k:= ?_)
  exact⟨_,rfl,rfl,trivial⟩
 ·have h0:(s.aI c).1=0:=(gC s c).resolve_right h1
  rw[if_neg h1] at cH
  refine ae (cH) Tryz.call129 5 [0,1,2,3,4] [0,0,0,0,0] [] ?_
  have hR:s.scan 0 c=s.be c:=by unfold J.be;rw[h0,Nat.zero_mul]
  unfold J.au
  rw[←hR]
  refine gg (k:= ?_)
  refine ae (kH (X:=X) s 0 c g pa hd va v0 v1) Tryz.call132 (hX:=⟨fun _=>⟨trivial,trivial,trivial,trivial⟩,trivial,trivial,trivial,trivial⟩) 3 [1,3,4] [0,0,0] [] ?_
  refine gg (k:= ?_)
  exact⟨_,rfl,rfl,trivial⟩
end Go.Proofs.YtpbpiehcchannaaGreatDoor
namespace Go.Proofs.YtpbpiehcchannaaGreatDoor
open Go.RowKit
set_option linter.unusedVariables false
set_option linter.unusedSimpArgs false
set_option maxRecDepth 100000
set_option maxHeartbeats 1500000
theorem FW {W : Int} {n k X : Nat} (s : J) (c : Nat) (g : av W n k s) (hW : W ≤ 1000000000000000) (hX : s.l.length = X * s.k) (pa : aC n k 0 c) (pb : aC n k c c) (l : List RK) (hb : ∀ r ∈ l, r.key.length ≤ 140737488355328 ∧ r.val.length ≤ 140737488355328) (hl : l.length ≤ 4194304) (lY : 0 ≤ (s.aI c).2.1 ∧ (s.aI c).2.1 ≤ 4294967295) (vs va vb v0 v1 : Nat) : Spec Tryz.prog 138 [.ref 0 vs 3 0 0, .sl 0 3 (eY 0) bl l] [⟨vs, .obj [.ref 3 v0 7 0 0, .ref 1 va 3 0 0, .ref 2 vb 3 0 0]⟩, ⟨va, .obj [.ref 3 v0 7 0 0, .val (.int .i64 ((0 : Nat) : Int)), .val (.int .i64 (c : Int))]⟩, ⟨vb, .obj [.ref 3 v0 7 0 0, .val (.int .i64 (c : Int)), .val (.int .i64 (c : Int))]⟩, ⟨v0, .obj [.own 4 v1 1 0 s.l.length, .val (.int .i64 (X : Int)), .val (.int .i64 (s.k : Int)), .val (.int .i64 s.ar), .val (.int .i64 s.pt), .val (.bool s.dd), .val (.int .i64 s.wr)]⟩, ⟨v1, .bytes s.l⟩]
   (ak (.val (.int .i64 (s.copy c l).1)) [⟨vs,.obj [.ref 3 v0 7 0 0,.ref 1 va 3 0 0,.ref 2 vb 3 0 0]⟩,⟨va,.obj [.ref 3 v0 7 0 0,.val (.int .i64 ((0:Nat):Int)),.val (.int .i64 (c:Int))]⟩,⟨vb,.obj [.ref 3 v0 7 0 0,.val (.int .i64 (c:Int)),.val (.int .i64 (c:Int))]⟩,⟨v0,.obj [.own 4 v1 1 0 (s.copy c l).2.l.length,.val (.int .i64 (X:Int)),.val (.int .i64 ((s.copy c l).2.k:Int)),.val (.int .i64 (s.copy c l).2.ar),.val (.int .i64 (s.copy c l).2.pt),.val (.bool (s.copy c l).2.dd),.val (.int .i64 (s.copy c l).2.wr)]⟩,⟨v1,.bytes (s.copy c l).2.l⟩] []):=by
 have cH:=nc (X:=X) s c g pa pb vs va vb v0 v1
 unfold kc at cH
 have kJ:c≤4194304:=pa.ac.2
 refine aq aj Tryz.func138 rfl Tryz.ntmps138 Tryz.results138 ?_
 unfold J.copy
 refine gg (k:= ?_)
 by_cases h1:(s.aI c).1=1
 ·rw[if_pos h1] at cH
  refine ae (cH) Tryz.call129 5 [0,1,2,3,4] [0,0,0,0,0] [] ?_
  refine gg (k:= ?_)
  by_cases aF:(s.aI c).2.1=4294967295
  ·rw[if_pos aF,decide_eq_true aF]
   refine gg (k:= ?_)
   exact⟨_,rfl,rfl,trivial⟩
  rw[if_neg aF]
  have Au:decide ((s.aI c).2.1=4294967295)=false:=decide_eq_false aF
  rw[Au]
  rw[h1,show(1 - 1)*c=0 by omega]
  refine gg (k:= ?_)
  (
 rw[show((s.aI c).2.1+1)%4294967296=(s.aI c).2.1+1 by omega]
 have hf:=Al (X:=X) s 0 c g (by omega) hX pa ((s.aI c).2.1+1) ⟨by omega,by omega⟩ va v0 v1
 have gf:=g.format 0 c ((s.aI c).2.1+1)
 unfold J.b6
 generalize s.format 0 c ((s.aI c).2.1+1)=F at hf gf⊢
 obtain⟨f,t⟩:=F
 simp only at hf gf⊢
 refine ae (hf) Tryz.call130 3 [1,3,4] [0,0,0] [] ?_
 by_cases h0:f=0
 ·subst h0
  rw[if_pos rfl]
  refine gg (k:= ?_)
  (refine ax (k:= ?_))
  conv=>whnf
  refine bh (fun j:Nat=>j≤l.length∧(t.bf 0 c (l.take j)).1=0) (fun j=>l.length - j) 5 [4,10,11,28,29,30,31,32,33,34,35,36,37,38,39,40,41,42,43,44,45,46,47,48] (fun j=>[(10,.val (.int .i64 (j:Int)))]) (fun j=>[(3,⟨v0,.obj [.own 4 v1 1 0 (t.bf 0 c (l.take j)).2.l.length,.val (.int .i64 (X:Int)),.val (.int .i64 ((t.bf 0 c (l.take j)).2.k:Int)),.val (.int .i64 (t.bf 0 c (l.take j)).2.ar),.val (.int .i64 (t.bf 0 c (l.take j)).2.pt),.val (.bool (t.bf 0 c (l.take j)).2.dd),.val (.int .i64 (t.bf 0 c (l.take j)).2.wr)]⟩),(4,⟨v1,.bytes (t.bf 0 c (l.take j)).2.l⟩)]) 0 ⟨Nat.zero_le _,rfl⟩ ?_ ?_ ?_
  ·exact no_implicit_lambda%ten
  ·exact no_implicit_lambda%az
  ·rintro j v ⟨j1,j2⟩
   have gj:=gf.bf 0 c (l.take j)
   have iN:(l.take j).length=j:=by rw[List.length_take];omega
   rw[iN] at gj
   refine bc (k:= ?_)
   refine gg (k:= ?_)
   refine⟨fun h'=> ?_,fun h'=> ?_⟩
   ·have ai:j<l.length:=by have:=of_decide_eq_true h';omega
    have hg:l.getD j bl=l[j]:=by rw[List.getD_eq_getElem?_getD,List.getElem?_eq_getElem ai];rfl
    obtain⟨dM,iI⟩:=hb _ (List.getElem_mem ai)
    have hT:l.take (j+1)=l.take j++[l[j]]:=List.take_succ_eq_append_getElem ai
    have hA:=tA 0 c l[j] (l.take j) t j2
    rw[←hT] at hA
    have hS:=tB 0 c (l.drop (j+1)) (l.take (j+1)) t
    rw[List.take_append_drop] at hS
    generalize l[j]=y at dM iI hA hg
    obtain⟨yk,yv,yl⟩:=y
    simp only at dM iI hA
    refine gg (k:= ?_)
    (refine ax (k:= ?_))
    refine bz (p:=5) aj hm [0,0,0,6,14,30,0,0,192,448,960,2047,4095] [⟨0,false,false,[]⟩,⟨1,false,false,[]⟩,⟨2,false,false,[]⟩,⟨3,true,false,[34,38,39,40,41,42,43,44,45,11]⟩,⟨4,true,false,[34,39,40,41,42,43,44,45,11]⟩,⟨5,true,false,[34,40,41,42,43,44,45,11]⟩,⟨6,false,false,[]⟩,⟨7,false,false,[]⟩,⟨8,true,false,[34,35,36,37,38,39,43,44,45,11]⟩,⟨9,true,false,[34,35,36,37,38,39,44,45,11]⟩,⟨10,true,false,[34,35,36,37,38,39,45,11]⟩,⟨11,true,true,[11]⟩,⟨12,false,false,[]⟩] (by kernel_rfl) ?_
    refine gg (k:= ?_)
    simp only[Int.toNat_natCast,hg]
    refine gg (k:= ?_)
    refine ae (oc (X:=X) (t.bf 0 c (l.take j)).2 0 c gj (by omega) pa yk yv dM iI 0 0 va v0 v1) Tryz.call139 3 [1,3,4] [0,0,0] [] ?_
    rw[←hA]
    by_cases hz:(t.bf 0 c (l.take (j+1))).1=0
    ·refine gg (k:= ?_)
     rw[decide_eq_true hz]
     refine gg (k:= ?_)
     refine aM (j+1) ⟨ai,hz⟩ (by show l.length - (j+1)<l.length - j;omega) ?_ ?_
     ·exact no_implicit_lambda%ten
     ·exact no_implicit_lambda%az
    ·refine gg (k:= ?_)
     rw[hS hz,if_neg hz]
     exact⟨_,rfl,rfl,trivial⟩
   ·obtain rfl:j=l.length:=by have:=of_decide_eq_false h';omega
    refine gg (k:= ?_)
    refine ae (Aj (X:=X) (t.bf 0 c (l.take l.length)).2 0 c gj (by omega) pa va v0 v1) Tryz.call131 3 [1,3,4] [0,0,0] [] ?_
    refine gg (k:= ?_)
    rw[List.take_length] at j2⊢
    rw[if_pos j2]
    exact⟨_,rfl,rfl,trivial⟩
 ·rw[if_neg h0]
  have sC:decide (f=0)=false:=decide_eq_false h0
  refine gg (k:= ?_)
  exact⟨_,rfl,rfl,trivial⟩)
 ·have h0:(s.aI c).1=0:=(gC s c).resolve_right h1
  rw[if_neg h1] at cH
  refine ae (cH) Tryz.call129 5 [0,1,2,3,4] [0,0,0,0,0] [] ?_
  refine gg (k:= ?_)
  by_cases aF:(s.aI c).2.1=4294967295
  ·rw[if_pos aF,decide_eq_true aF]
   refine gg (k:= ?_)
   exact⟨_,rfl,rfl,trivial⟩
  rw[if_neg aF]
  have Au:decide ((s.aI c).2.1=4294967295)=false:=decide_eq_false aF
  rw[Au]
  rw[h0,show(1 - 0)*c=c by omega]
  refine gg (k:= ?_)
  (
 rw[show((s.aI c).2.1+1)%4294967296=(s.aI c).2.1+1 by omega]
 have hf:=Al (X:=X) s c c g (by omega) hX pb ((s.aI c).2.1+1) ⟨by omega,by omega⟩ vb v0 v1
 have gf:=g.format c c ((s.aI c).2.1+1)
 unfold J.b6
 generalize s.format c c ((s.aI c).2.1+1)=F at hf gf⊢
 obtain⟨f,t⟩:=F
 simp only at hf gf⊢
 refine ae (hf) Tryz.call130 3 [2,3,4] [0,0,0] [] ?_
 by_cases h0:f=0
 ·subst h0
  rw[if_pos rfl]
  refine gg (k:= ?_)
  (refine ax (k:= ?_))
  conv=>whnf
  refine bh (fun j:Nat=>j≤l.length∧(t.bf c c (l.take j)).1=0) (fun j=>l.length - j) 5 [4,10,11,28,29,30,31,32,33,34,35,36,37,38,39,40,41,42,43,44,45,46,47,48] (fun j=>[(10,.val (.int .i64 (j:Int)))]) (fun j=>[(3,⟨v0,.obj [.own 4 v1 1 0 (t.bf c c (l.take j)).2.l.length,.val (.int .i64 (X:Int)),.val (.int .i64 ((t.bf c c (l.take j)).2.k:Int)),.val (.int .i64 (t.bf c c (l.take j)).2.ar),.val (.int .i64 (t.bf c c (l.take j)).2.pt),.val (.bool (t.bf c c (l.take j)).2.dd),.val (.int .i64 (t.bf c c (l.take j)).2.wr)]⟩),(4,⟨v1,.bytes (t.bf c c (l.take j)).2.l⟩)]) 0 ⟨Nat.zero_le _,rfl⟩ ?_ ?_ ?_
  ·exact no_implicit_lambda%ten
  ·exact no_implicit_lambda%az
  ·rintro j v ⟨j1,j2⟩
   have gj:=gf.bf c c (l.take j)
   have iN:(l.take j).length=j:=by rw[List.length_take];omega
   rw[iN] at gj
   refine bc (k:= ?_)
   refine gg (k:= ?_)
   refine⟨fun h'=> ?_,fun h'=> ?_⟩
   ·have ai:j<l.length:=by have:=of_decide_eq_true h';omega
    have hg:l.getD j bl=l[j]:=by rw[List.getD_eq_getElem?_getD,List.getElem?_eq_getElem ai];rfl
    obtain⟨dM,iI⟩:=hb _ (List.getElem_mem ai)
    have hT:l.take (j+1)=l.take j++[l[j]]:=List.take_succ_eq_append_getElem ai
    have hA:=tA c c l[j] (l.take j) t j2
    rw[←hT] at hA
    have hS:=tB c c (l.drop (j+1)) (l.take (j+1)) t
    rw[List.take_append_drop] at hS
    generalize l[j]=y at dM iI hA hg
    obtain⟨yk,yv,yl⟩:=y
    simp only at dM iI hA
    refine gg (k:= ?_)
    (refine ax (k:= ?_))
    refine bz (p:=5) aj hm [0,0,0,6,14,30,0,0,192,448,960,2047,4095] [⟨0,false,false,[]⟩,⟨1,false,false,[]⟩,⟨2,false,false,[]⟩,⟨3,true,false,[34,38,39,40,41,42,43,44,45,11]⟩,⟨4,true,false,[34,39,40,41,42,43,44,45,11]⟩,⟨5,true,false,[34,40,41,42,43,44,45,11]⟩,⟨6,false,false,[]⟩,⟨7,false,false,[]⟩,⟨8,true,false,[34,35,36,37,38,39,43,44,45,11]⟩,⟨9,true,false,[34,35,36,37,38,39,44,45,11]⟩,⟨10,true,false,[34,35,36,37,38,39,45,11]⟩,⟨11,true,true,[11]⟩,⟨12,false,false,[]⟩] (by kernel_rfl) ?_
    refine gg (k:= ?_)
    simp only[Int.toNat_natCast,hg]
    refine gg (k:= ?_)
    refine ae (oc (X:=X) (t.bf c c (l.take j)).2 c c gj (by omega) pb yk yv dM iI 0 0 vb v0 v1) Tryz.call139 3 [2,3,4] [0,0,0] [] ?_
    rw[←hA]
    by_cases hz:(t.bf c c (l.take (j+1))).1=0
    ·refine gg (k:= ?_)
     rw[decide_eq_true hz]
     refine gg (k:= ?_)
     refine aM (j+1) ⟨ai,hz⟩ (by show l.length - (j+1)<l.length - j;omega) ?_ ?_
     ·exact no_implicit_lambda%ten
     ·exact no_implicit_lambda%az
    ·refine gg (k:= ?_)
     rw[hS hz,if_neg hz]
     exact⟨_,rfl,rfl,trivial⟩
   ·obtain rfl:j=l.length:=by have:=of_decide_eq_false h';omega
    refine gg (k:= ?_)
    refine ae (Aj (X:=X) (t.bf c c (l.take l.length)).2 c c gj (by omega) pb vb v0 v1) Tryz.call131 3 [2,3,4] [0,0,0] [] ?_
    refine gg (k:= ?_)
    rw[List.take_length] at j2⊢
    rw[if_pos j2]
    exact⟨_,rfl,rfl,trivial⟩
 ·rw[if_neg h0]
  have sC:decide (f=0)=false:=decide_eq_false h0
  refine gg (k:= ?_)
  exact⟨_,rfl,rfl,trivial⟩)
end Go.Proofs.YtpbpiehcchannaaGreatDoor
