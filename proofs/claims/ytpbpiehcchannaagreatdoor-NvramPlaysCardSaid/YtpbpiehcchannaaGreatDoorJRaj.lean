/- Walks of lintelref09: Keys. Conditions: none. -/
import Derived.Test.YtpbpiehcchannaaGreatDoorJHz
import Derived.Test.YtpbpiehcchannaaGreatDoorJNr1
import Derived.Test.YtpbpiehcchannaaGreatDoorJHq
import Derived.Test.YtpbpiehcchannaaGreatDoorJHk
import Derived.Test.YtpbpiehcchannaaGreatDoorJNk2
namespace Go.Proofs.YtpbpiehcchannaaGreatDoor
open Go.RowKit
set_option linter.unusedVariables false
set_option linter.unusedSimpArgs false
set_option maxRecDepth 100000
set_option maxHeartbeats 3000000
def J.me(s:J)(c:Nat):List (List UInt8)×Int:=if s.dd then([],6) else(jk (gQ (s.au c)),0)
theorem Oa{M:List RK}(bW:(M.map fun r=>r.key).Nodup)(i:Nat)(hi:i<M.length)(R:List RK)(h:RM (M.take i) R):RM (M.take (i+1)) (mV R M[i]):=by
 have hT:M.take (i+1)=M.take i++[M[i]]:=List.take_succ_eq_append_getElem hi
 rw[hT]
 refine⟨?_,z6 h.sort fun r hr q=> ?_⟩
 ·exact((tn R M[i]).trans (h.perm.append_right _))
 ·have h1:r∈M.take i:=h.perm.mem_iff.1 hr
  obtain⟨j,hj,fq⟩:=List.mem_iff_getElem.1 h1
  rw[List.length_take] at hj
  rw[List.getElem_take] at fq
  have l1:j< (M.map fun r=>r.key).length:=by rw[List.length_map];omega
  have l2:i< (M.map fun r=>r.key).length:=by rw[List.length_map];exact hi
  have h2:=(List.getElem_inj (h₀:=l1) (h₁:=l2) bW).1 (show(M.map fun r=>r.key)[j]=(M.map fun r=>r.key)[i] by rw[List.getElem_map,List.getElem_map,fq];exact q)
  omega
theorem Gk(A B:List (List UInt8))(key:List UInt8)(i:Nat)(x:Option (List UInt8))(y:List UInt8)(h1:(A.map some++[none]++B.map some)[i]? =some x)(h2:(A++[key]++B)[i]? =some y):x=some y∨(x=none∧y=key):=by
 rw[List.append_assoc] at h1 h2
 by_cases h:i<A.length
 ·rw[List.getElem?_append_left (by rw[List.length_map];exact h),List.getElem?_map] at h1
  rw[List.getElem?_append_left h] at h2
  rw[h2] at h1
  exact .inl (Option.some.inj h1).symm
 ·rw[List.getElem?_append_right (by rw[List.length_map];omega),List.length_map] at h1
  rw[List.getElem?_append_right (by omega)] at h2
  generalize i - A.length=q at h1 h2
  cases q with
  | zero=>exact .inr ⟨(Option.some.inj h1).symm,(Option.some.inj h2).symm⟩
  | succ q=>
   rw[List.singleton_append,List.getElem?_cons_succ,List.getElem?_map] at h1
   rw[List.singleton_append,List.getElem?_cons_succ] at h2
   rw[h2] at h1
   exact .inl (Option.some.inj h1).symm
structure Ob where
 i:Nat
 ks:List (List UInt8)
theorem Oc {W : Int} {n k X : Nat} (s : J) (c : Nat) (g : av W n k s) (pa : aC n k 0 c) (pb : aC n k c c) (hd : s.dd = false) (vs va vb v0 v1 : Nat) : Spec Tryz.prog 91 [.ref 0 vs 3 0 0] [⟨vs, .obj [.ref 3 v0 7 0 0, .ref 1 va 3 0 0, .ref 2 vb 3 0 0]⟩, ⟨va, .obj [.ref 3 v0 7 0 0, .val (.int .i64 ((0 : Nat) : Int)), .val (.int .i64 (c : Int))]⟩, ⟨vb, .obj [.ref 3 v0 7 0 0, .val (.int .i64 (c : Int)), .val (.int .i64 (c : Int))]⟩, ⟨v0, .obj [.own 4 v1 1 0 s.l.length, .val (.int .i64 (X : Int)), .val (.int .i64 (s.k : Int)), .val (.int .i64 s.ar), .val (.int .i64 s.pt), .val (.bool s.dd), .val (.int .i64 s.wr)]⟩, ⟨v1, .bytes s.l⟩]
   (ak (.al [.sl 0 1 (fun k:List UInt8=>[AV.bs 0 k]) [] (jk (gQ (s.au c))),.val (.int .i64 0)]) [⟨vs,.obj [.ref 3 v0 7 0 0,.ref 1 va 3 0 0,.ref 2 vb 3 0 0]⟩,⟨va,.obj [.ref 3 v0 7 0 0,.val (.int .i64 ((0:Nat):Int)),.val (.int .i64 (c:Int))]⟩,⟨vb,.obj [.ref 3 v0 7 0 0,.val (.int .i64 (c:Int)),.val (.int .i64 (c:Int))]⟩,⟨v0,.obj [.own 4 v1 1 0 s.l.length,.val (.int .i64 (X:Int)),.val (.int .i64 (s.k:Int)),.val (.int .i64 s.ar),.val (.int .i64 s.pt),.val (.bool s.dd),.val (.int .i64 s.wr)]⟩,⟨v1,.bytes s.l⟩] []):=by
 have cM:=g.im pa pb
 have Aw:=(dR (s.au c)).length_le
 have lZ:=cM.n
 have bW:=wg (s.au c)
 have Gm:∀r∈bm (s.au c),r.key.length≤140737488355328:=fun r hr=>(cM.b r ((dR (s.au c)).subset hr)).1
 unfold gQ at bW⊢
 obtain⟨M,hM⟩:∃M,M=bm (s.au c):=⟨_,rfl⟩
 rw[←hM] at bW Aw Gm⊢
 have Qy:M.length≤4194304:=by omega
 obtain⟨K,hK⟩:∃K,K=jk (M.map fun r=>r.key):=⟨_,rfl⟩
 rw[←hK]
 have tE:K.length=M.length:=by rw[hK,tc,List.length_map]
 have h:Spec Tryz.prog 91 [.ref 0 vs 3 0 0] [⟨vs,.obj [.ref 3 v0 7 0 0,.ref 1 va 3 0 0,.ref 2 vb 3 0 0]⟩,⟨va,.obj [.ref 3 v0 7 0 0,.val (.int .i64 ((0:Nat):Int)),.val (.int .i64 (c:Int))]⟩,⟨vb,.obj [.ref 3 v0 7 0 0,.val (.int .i64 (c:Int)),.val (.int .i64 (c:Int))]⟩,⟨v0,.obj [.own 4 v1 1 0 s.l.length,.val (.int .i64 (X:Int)),.val (.int .i64 (s.k:Int)),.val (.int .i64 s.ar),.val (.int .i64 s.pt),.val (.bool s.dd),.val (.int .i64 s.wr)]⟩,⟨v1,.bytes s.l⟩] (ak (.al [.own 13 (M.length+1) 1 0 M.length,.val (.int .i64 0)]) [⟨vs,.obj [.ref 3 v0 7 0 0,.ref 1 va 3 0 0,.ref 2 vb 3 0 0]⟩,⟨va,.obj [.ref 3 v0 7 0 0,.val (.int .i64 ((0:Nat):Int)),.val (.int .i64 (c:Int))]⟩,⟨vb,.obj [.ref 3 v0 7 0 0,.val (.int .i64 (c:Int)),.val (.int .i64 (c:Int))]⟩,⟨v0,.obj [.own 4 v1 1 0 s.l.length,.val (.int .i64 (X:Int)),.val (.int .i64 (s.k:Int)),.val (.int .i64 s.ar),.val (.int .i64 s.pt),.val (.bool s.dd),.val (.int .i64 s.wr)]⟩,⟨v1,.bytes s.l⟩] [(13,⟨M.length+1,.row 1 (fun k:List UInt8=>[AV.bs 0 k]) [] K⟩)]):=by
  refine aq aj Tryz.func91 rfl Tryz.ntmps91 Tryz.results91 ?_
  refine gg (k:= ?_)
  refine ae (ry (X:=X) s c g pa pb hd vs va vb v0 v1) Tryz.call135 (hX:=⟨fun _=>⟨trivial,trivial,trivial,trivial⟩,trivial,trivial,trivial,trivial⟩) 5 [0,1,2,3,4] [0,0,0,0,0] [] ?_
  refine gg (k:= ?_)
  refine ae (tu (s.au c) cM.n) Tryz.call137 (hon:=⟨fun _=>⟨trivial,trivial,trivial,trivial⟩,trivial⟩) (hX:=fun _=>⟨trivial,trivial,trivial,trivial⟩) 0 [] [] [] ?_
  rw[←hM]
  clear hM cM lZ
  refine gg (k:= ?_)
  (refine ax (k:= ?_))
  conv=>whnf
  refine lW (ia 13 1 (.row 1 (fun k:List UInt8=>[AV.bs 0 k]) [] []) rfl (by decide) rfl (ta 1 (k:=8) rfl)) ?_
  dsimp only[aH]
  refine bh (fun y:Ob=>y.i≤M.length∧y.ks.length=y.i∧∃R,RM (M.take y.i) R∧y.ks=iH R) (fun y=>M.length - y.i) 5 [8,9,10,11,24,25,26,27,28,29,30,31,32,33,34,35,36,37,38,39,40,41,42,43,44,45,46,47,48,49,50,51,52,53,54,55,56,57,58,59,60,61,62,63,64,65,66,67,68,69] (fun y=>[(8,.own 13 (y.i+1) 1 0 y.i),(9,.val (.int .i64 (y.i:Int)))]) (fun y=>[(13,⟨y.i+1,.row 1 (fun k:List UInt8=>[AV.bs 0 k]) [] y.ks⟩)]) ⟨0,[]⟩ ⟨Nat.zero_le _,rfl,[],RM.nil,rfl⟩ ?_ ?_ ?_
  ·exact no_implicit_lambda%ten
  ·exact no_implicit_lambda%az
  ·rintro⟨i,ks⟩ v ⟨i1,i2,R,hR,vM⟩
   simp only at i1 i2 hR vM
   refine bc (k:= ?_)
   refine gg (k:= ?_)
   refine⟨fun h=> ?_,fun h=> ?_⟩
   ·have ai:i<M.length:=by have:=of_decide_eq_true h;omega
    have gP:=Gm _ (List.getElem_mem ai)
    have AJ:=Oa bW i ai R hR
    have jP:=(Ms R M[i]).1
    rw[←vM] at jP
    have dW:M.getD i bl=M[i]:=by rw[List.getD_eq_getElem?_getD,List.getElem?_eq_getElem ai];rfl
    generalize M[i]=x at gP AJ jP dW
    obtain⟨key,val,lv⟩:=x
    simp only at gP jP
    have dG:=Ga ks key
    have hs:∀l,(strOf l).data.toList=l:=fun l=>by simp[strOf]
    refine gg (k:= ?_)
    (refine ax (k:= ?_))
    conv=>whnf
    refine bh (fun j:Nat=>j≤il ks key) (fun j=>ks.length - j) 5 [10,30,31,32,33,34,35,36,37,38,39,40,41,42,43,44,45,46,47,48,49] (fun j=>[(10,.val (.int .i64 (j:Int)))]) (fun j=>[]) 0 (Nat.zero_le _) ?_ ?_ ?_
    ·exact no_implicit_lambda%ten
    ·exact no_implicit_lambda%az
    ·rintro j v' j1
     refine bc (k:= ?_)
     refine gg (k:= ?_)
     (refine ax (k:= ?_))
     refine bz (p:=5) aj hm [0,0,2,7,15,31,31,127,255,511,31,31,3103,7199,15391,31775,65535,131071] [⟨0,false,false,[]⟩,⟨1,false,false,[]⟩,⟨2,true,false,[30,33,34,35,36,37,38,39,40,41,42,43,44,45,46,47]⟩,⟨3,false,false,[]⟩,⟨4,false,false,[]⟩,⟨5,false,false,[]⟩,⟨6,false,false,[]⟩,⟨7,true,false,[38,39,40,41,42,43,44,45,46,47]⟩,⟨8,true,false,[39,40,41,42,43,44,45,46,47]⟩,⟨9,true,false,[40,41,42,43,44,45,46,47]⟩,⟨10,false,false,[]⟩,⟨11,false,false,[]⟩,⟨12,true,false,[35,36,37,38,39,43,44,45,46,47]⟩,⟨13,true,false,[35,36,37,38,39,44,45,46,47]⟩,⟨14,true,false,[35,36,37,38,39,45,46,47]⟩,⟨15,true,false,[35,36,37,38,39,46,47]⟩,⟨16,false,false,[]⟩,⟨17,false,false,[]⟩] (by kernel_rfl) ?_
     by_cases hj:j<ks.length
     ·refine gg (k:= ?_)
      refine⟨fun h'=> ?_,fun h'=> ?_⟩
      ·simp only[Bool.and_eq_true,hs,Int.toNat_natCast,dW,Nat.zero_add] at h'
       have kv:=Gb ks key j j1 hj h'.2
       clear h'
       refine gg (k:= ?_)
       refine(show qm _ (qD _ _ _ _ _ _ _ _ _) .normal _ from ?_)
       refine EB ?_
       refine aM (j+1) kv (by show ks.length - (j+1)<ks.length - j;omega) ?_ ?_
       ·exact no_implicit_lambda%ten
       ·exact no_implicit_lambda%az
      ·simp only[Bool.and_eq_false_iff,hs,Int.toNat_natCast,decide_eq_false_iff_not,dW,Nat.zero_add] at h'
       have kv:=Gc ks key j j1 hj (h'.resolve_left (by omega))
       clear h'
       (
 refine gg (k:= ?_)
 rw[kv] at jP dG
 have t1:(ks.take j).length=j:=by rw[List.length_take];omega
 conv=>whnf
 (
 refine⟨List UInt8,(fun k:List UInt8=>[AV.bs 0 k]),[],(ks.take j),?_⟩
 conv=>whnf
 refine And.intro ⟨rfl,⟨rfl,rfl,by omega,fun x hx=>⟨trivial,trivial⟩⟩,rfl,rfl,rfl,rfl,.inr rfl,by simp,by show _*24≤_;(try simp only[List.length_append]);omega,by decide⟩ ?_)
 refine gg (k:= ?_)
 conv=>whnf
 refine⟨key,?_⟩
 conv=>whnf
 refine And.intro ⟨rfl,trivial,rfl,rfl,rfl,rfl,rfl,by rw[Int.toNat_natCast,dW],(by show(0+key.length)*1≤_;omega),by decide⟩ ?_
 refine gg (k:= ?_)
 conv=>whnf
 refine⟨Option (List UInt8),(fun o:Option (List UInt8)=>match o with | some x=>[AV.bs 0 x] | none=>[AV.own 61 (v 61+1+1) 1 0 (0+key.length)]),none,(ks.take j).map some++[none],?_⟩
 conv=>whnf
 refine And.intro ⟨rfl,⟨rfl,rfl,Nat.le_refl _,fun q hq=>(by(have ig:q=0:=by simpa using hq);subst ig;exact⟨rfl,trivial⟩)⟩,rfl,rfl,rfl,rfl,.inr rfl,(by rw[List.map_append,List.map_map];rfl),by show _*24≤_;simp only[List.length_append,List.length_map,List.length_singleton];omega,by decide⟩ ?_
 refine gg (k:= ?_)
 conv=>whnf
 refine⟨Option (List UInt8),(fun o:Option (List UInt8)=>match o with | some x=>[AV.bs 0 x] | none=>[AV.own 61 (v 61+1+1) 1 0 (0+key.length)]),none,(ks.take j).map some++[none]++(ks.drop j).map some,?_⟩
 conv=>whnf
 refine And.intro ⟨rfl,⟨rfl,rfl,by show 0+(j:Int).toNat+(i - (j:Int).toNat)≤_;omega,fun x hx=>⟨trivial,trivial⟩⟩,rfl,rfl,rfl,rfl,.inr rfl,?_,by show _*24≤_;simp only[List.length_append,List.length_map,List.length_singleton,List.length_drop];omega,by decide⟩ ?_
 ·rw[show List.take ((i:Int).toNat - (j:Int).toNat) (List.drop (0+(j:Int).toNat) ks)=List.drop j ks by rw[Int.toNat_natCast,Int.toNat_natCast,Nat.zero_add];exact List.take_of_length_le (by rw[List.length_drop];omega)]
  refine Eq.trans ?_ List.map_append.symm
  rw[List.map_map]
  rfl
 refine gg (k:= ?_)
 refine vG (EC 61 55 (bq':= .row 1 (fun k:List UInt8=>[AV.bs 0 k]) [] (putAt ks j key)) rfl rfl rfl (BF.row (by unfold putAt;simp only[List.length_append,List.length_map,List.length_singleton]) fun q x y hx hy=> ?_)) ?_
 ·rcases Gk _ _ _ q x y hx hy with rfl | ⟨rfl,rfl⟩
  ·exact af.cons AF.same af.nil
  ·exact af.cons (AF.own rfl (Nat.zero_add _)) af.nil
 refine vG (EA 55 13 (i+2) rfl rfl rfl (Nat.lt_succ_self (i+1)) rfl (zM (k:=8) rfl)) ?_
 dsimp only[aH]
 have AK:(putAt ks j key).length=i+1:=by rw[Gd dG,i2]
 refine aM ⟨i+1,putAt ks j key⟩ ⟨ai,AK,_,AJ,jP⟩ (by show M.length - (i+1)<M.length - i;omega) ?_ ?_
 ·dsimp only[dt,hY,hZ,aH]
  rw[show((List.map some (List.take j ks)++[none]++List.map some (List.drop j ks):List (Option (List UInt8))).length)=i+1 by simp only[List.length_append,List.length_map,List.length_singleton,List.length_drop];omega]
  exact no_implicit_lambda%ten
 ·exact no_implicit_lambda% az)
     ·have kv:il ks key=j:=by omega
      (
 refine gg (k:= ?_)
 rw[kv] at jP dG
 have t1:(ks.take j).length=j:=by rw[List.length_take];omega
 conv=>whnf
 (
 refine⟨List UInt8,(fun k:List UInt8=>[AV.bs 0 k]),[],(ks.take j),?_⟩
 conv=>whnf
 refine And.intro ⟨rfl,⟨rfl,rfl,by omega,fun x hx=>⟨trivial,trivial⟩⟩,rfl,rfl,rfl,rfl,.inr rfl,by simp,by show _*24≤_;(try simp only[List.length_append]);omega,by decide⟩ ?_)
 refine gg (k:= ?_)
 conv=>whnf
 refine⟨key,?_⟩
 conv=>whnf
 refine And.intro ⟨rfl,trivial,rfl,rfl,rfl,rfl,rfl,by rw[Int.toNat_natCast,dW],(by show(0+key.length)*1≤_;omega),by decide⟩ ?_
 refine gg (k:= ?_)
 conv=>whnf
 refine⟨Option (List UInt8),(fun o:Option (List UInt8)=>match o with | some x=>[AV.bs 0 x] | none=>[AV.own 61 (v 61+1+1) 1 0 (0+key.length)]),none,(ks.take j).map some++[none],?_⟩
 conv=>whnf
 refine And.intro ⟨rfl,⟨rfl,rfl,Nat.le_refl _,fun q hq=>(by(have ig:q=0:=by simpa using hq);subst ig;exact⟨rfl,trivial⟩)⟩,rfl,rfl,rfl,rfl,.inr rfl,(by rw[List.map_append,List.map_map];rfl),by show _*24≤_;simp only[List.length_append,List.length_map,List.length_singleton];omega,by decide⟩ ?_
 refine gg (k:= ?_)
 conv=>whnf
 refine⟨Option (List UInt8),(fun o:Option (List UInt8)=>match o with | some x=>[AV.bs 0 x] | none=>[AV.own 61 (v 61+1+1) 1 0 (0+key.length)]),none,(ks.take j).map some++[none]++(ks.drop j).map some,?_⟩
 conv=>whnf
 refine And.intro ⟨rfl,⟨rfl,rfl,by show 0+(j:Int).toNat+(i - (j:Int).toNat)≤_;omega,fun x hx=>⟨trivial,trivial⟩⟩,rfl,rfl,rfl,rfl,.inr rfl,?_,by show _*24≤_;simp only[List.length_append,List.length_map,List.length_singleton,List.length_drop];omega,by decide⟩ ?_
 ·rw[show List.take ((i:Int).toNat - (j:Int).toNat) (List.drop (0+(j:Int).toNat) ks)=List.drop j ks by rw[Int.toNat_natCast,Int.toNat_natCast,Nat.zero_add];exact List.take_of_length_le (by rw[List.length_drop];omega)]
  refine Eq.trans ?_ List.map_append.symm
  rw[List.map_map]
  rfl
 refine gg (k:= ?_)
 refine vG (EC 61 55 (bq':= .row 1 (fun k:List UInt8=>[AV.bs 0 k]) [] (putAt ks j key)) rfl rfl rfl (BF.row (by unfold putAt;simp only[List.length_append,List.length_map,List.length_singleton]) fun q x y hx hy=> ?_)) ?_
 ·rcases Gk _ _ _ q x y hx hy with rfl | ⟨rfl,rfl⟩
  ·exact af.cons AF.same af.nil
  ·exact af.cons (AF.own rfl (Nat.zero_add _)) af.nil
 refine vG (EA 55 13 (i+2) rfl rfl rfl (Nat.lt_succ_self (i+1)) rfl (zM (k:=8) rfl)) ?_
 dsimp only[aH]
 have AK:(putAt ks j key).length=i+1:=by rw[Gd dG,i2]
 refine aM ⟨i+1,putAt ks j key⟩ ⟨ai,AK,_,AJ,jP⟩ (by show M.length - (i+1)<M.length - i;omega) ?_ ?_
 ·dsimp only[dt,hY,hZ,aH]
  rw[show((List.map some (List.take j ks)++[none]++List.map some (List.drop j ks):List (Option (List UInt8))).length)=i+1 by simp only[List.length_append,List.length_map,List.length_singleton,List.length_drop];omega]
  exact no_implicit_lambda%ten
 ·exact no_implicit_lambda%az)
   ·obtain rfl:i=M.length:=by have:=of_decide_eq_false h;omega
    rw[List.take_length] at hR
    have Od:K=ks:=by rw[hK,vM];exact hR.keys
    refine gg (k:= ?_)
    rw[Od]
    exact⟨_,rfl,rfl,rfl,trivial⟩
 exact br h (by simp[ef]) (AF.al (af.cons (EP rfl tE.symm) (af.cons AF.same af.nil))) ⟨rfl,BF.same,rfl,BF.same,rfl,BF.same,rfl,BF.same,rfl,BF.same,trivial⟩
theorem Oe {W : Int} {n k X : Nat} (s : J) (c : Nat) (g : av W n k s) (pa : aC n k 0 c) (pb : aC n k c c) (vs va vb v0 v1 : Nat) : Spec Tryz.prog 91 [.ref 0 vs 3 0 0] [⟨vs, .obj [.ref 3 v0 7 0 0, .ref 1 va 3 0 0, .ref 2 vb 3 0 0]⟩, ⟨va, .obj [.ref 3 v0 7 0 0, .val (.int .i64 ((0 : Nat) : Int)), .val (.int .i64 (c : Int))]⟩, ⟨vb, .obj [.ref 3 v0 7 0 0, .val (.int .i64 (c : Int)), .val (.int .i64 (c : Int))]⟩, ⟨v0, .obj [.own 4 v1 1 0 s.l.length, .val (.int .i64 (X : Int)), .val (.int .i64 (s.k : Int)), .val (.int .i64 s.ar), .val (.int .i64 s.pt), .val (.bool s.dd), .val (.int .i64 s.wr)]⟩, ⟨v1, .bytes s.l⟩]
   (ak (.al [.sl 0 1 (fun k:List UInt8=>[AV.bs 0 k]) [] (s.me c).1,.val (.int .i64 (s.me c).2)]) [⟨vs,.obj [.ref 3 v0 7 0 0,.ref 1 va 3 0 0,.ref 2 vb 3 0 0]⟩,⟨va,.obj [.ref 3 v0 7 0 0,.val (.int .i64 ((0:Nat):Int)),.val (.int .i64 (c:Int))]⟩,⟨vb,.obj [.ref 3 v0 7 0 0,.val (.int .i64 (c:Int)),.val (.int .i64 (c:Int))]⟩,⟨v0,.obj [.own 4 v1 1 0 s.l.length,.val (.int .i64 (X:Int)),.val (.int .i64 (s.k:Int)),.val (.int .i64 s.ar),.val (.int .i64 s.pt),.val (.bool s.dd),.val (.int .i64 s.wr)]⟩,⟨v1,.bytes s.l⟩] []):=by
 unfold J.me
 by_cases hd:s.dd=true
 ·rw[if_pos hd]
  have h:Spec Tryz.prog 91 [.ref 0 vs 3 0 0] [⟨vs,.obj [.ref 3 v0 7 0 0,.ref 1 va 3 0 0,.ref 2 vb 3 0 0]⟩,⟨va,.obj [.ref 3 v0 7 0 0,.val (.int .i64 ((0:Nat):Int)),.val (.int .i64 (c:Int))]⟩,⟨vb,.obj [.ref 3 v0 7 0 0,.val (.int .i64 (c:Int)),.val (.int .i64 (c:Int))]⟩,⟨v0,.obj [.own 4 v1 1 0 s.l.length,.val (.int .i64 (X:Int)),.val (.int .i64 (s.k:Int)),.val (.int .i64 s.ar),.val (.int .i64 s.pt),.val (.bool s.dd),.val (.int .i64 s.wr)]⟩,⟨v1,.bytes s.l⟩] (ak (.al [.val (.slice none 0 0),.val (.int .i64 6)]) [⟨vs,.obj [.ref 3 v0 7 0 0,.ref 1 va 3 0 0,.ref 2 vb 3 0 0]⟩,⟨va,.obj [.ref 3 v0 7 0 0,.val (.int .i64 ((0:Nat):Int)),.val (.int .i64 (c:Int))]⟩,⟨vb,.obj [.ref 3 v0 7 0 0,.val (.int .i64 (c:Int)),.val (.int .i64 (c:Int))]⟩,⟨v0,.obj [.own 4 v1 1 0 s.l.length,.val (.int .i64 (X:Int)),.val (.int .i64 (s.k:Int)),.val (.int .i64 s.ar),.val (.int .i64 s.pt),.val (.bool s.dd),.val (.int .i64 s.wr)]⟩,⟨v1,.bytes s.l⟩] []):=by
   refine aq aj Tryz.func91 rfl Tryz.ntmps91 Tryz.results91 ?_
   refine gg (k:= ?_)
   refine ae (tz (W:=W) (n:=n) (k:=k) (X:=X) s c hd vs va vb v0 v1) Tryz.call135 5 [0,1,2,3,4] [0,0,0,0,0] [] ?_
   refine gg (k:= ?_)
   exact⟨_,rfl,rfl,trivial⟩
  exact br h trivial (AF.al (af.cons AF.cF (af.cons AF.same af.nil))) ⟨rfl,BF.same,rfl,BF.same,rfl,BF.same,rfl,BF.same,rfl,BF.same,trivial⟩
 ·rw[if_neg hd]
  exact Oc s c g pa pb (by simpa using hd) vs va vb v0 v1
/-! no store -/
theorem Of(z:Nat)(key:List UInt8):Spec Tryz.prog 88 [.val (.pointer none),.bs z key] [] (ak (.al [.bs 0 [],.val (.bool false),.val (.int .i64 2)]) [] []):=by
 have h:Spec Tryz.prog 88 [.val (.pointer none),.bs z key] [] (ak (.al [.val (.slice none 0 0),.val (.bool false),.val (.int .i64 2)]) [] []):=by
  refine aq aj Tryz.func88 rfl Tryz.ntmps88 Tryz.results88 ?_
  refine gg (k:= ?_)
  refine ae (wc) Tryz.call135 0 [] [] [] ?_
  refine gg (k:= ?_)
  exact⟨_,rfl,rfl,trivial⟩
 exact br h trivial (AF.al (af.cons AF.nil (af.cons AF.same (af.cons AF.same af.nil)))) trivial
theorem Og:Spec Tryz.prog 91 [.val (.pointer none)] [] (ak (.al [.sl 0 1 (fun k:List UInt8=>[AV.bs 0 k]) [] [],.val (.int .i64 2)]) [] []):=by
 have h:Spec Tryz.prog 91 [.val (.pointer none)] [] (ak (.al [.val (.slice none 0 0),.val (.int .i64 2)]) [] []):=by
  refine aq aj Tryz.func91 rfl Tryz.ntmps91 Tryz.results91 ?_
  refine gg (k:= ?_)
  refine ae (wc) Tryz.call135 0 [] [] [] ?_
  refine gg (k:= ?_)
  exact⟨_,rfl,rfl,trivial⟩
 exact br h trivial (AF.al (af.cons AF.cF (af.cons AF.same af.nil))) trivial
theorem Oh:Spec Tryz.prog 92 [.val (.pointer none)] [] (ak (.al [.val (.int .i64 0),.val (.int .i64 2)]) [] []):=by
 refine aq aj Tryz.func92 rfl Tryz.ntmps92 Tryz.results92 ?_
 refine gg (k:= ?_)
 refine ae (wc) Tryz.call135 0 [] [] [] ?_
 refine gg (k:= ?_)
 exact⟨_,rfl,rfl,trivial⟩
theorem Oi(z:Nat)(key:List UInt8):Spec Tryz.prog 90 [.val (.pointer none),.bs z key] [] (ak (.val (.int .i64 2)) [] []):=by
 refine aq aj Tryz.func90 rfl Tryz.ntmps90 Tryz.results90 ?_
 refine gg (k:= ?_)
 refine ae (wc) Tryz.call135 0 [] [] [] ?_
 refine gg (k:= ?_)
 exact⟨_,rfl,rfl,trivial⟩
theorem Oj(z z':Nat)(key val:List UInt8):Spec Tryz.prog 89 [.val (.pointer none),.bs z key,.bs z' val] [] (ak (.val (.int .i64 2)) [] []):=by
 refine aq aj Tryz.func89 rfl Tryz.ntmps89 Tryz.results89 ?_
 refine gg (k:= ?_)
 exact⟨_,rfl,rfl,trivial⟩
theorem rB:Spec Tryz.prog 36 [.val (.pointer none)] [] (ak (.val (.int .i64 0)) [] []):=by
 refine aq aj Tryz.func36 rfl Tryz.ntmps36 Tryz.results36 ?_
 refine gg (k:= ?_)
 exact⟨_,rfl,rfl,trivial⟩
theorem F8{W:Int}{n k X:Nat}(s:J)(c:Nat)(g:av W n k s)(pa:aC n k 0 c)(hX:X=2*c)(hd:s.dd=true)(v0 v1:Nat):Spec Tryz.prog 87 [.ref 0 v0 7 0 0] [⟨v0,.obj [.own 1 v1 1 0 s.l.length,.val (.int .i64 (X:Int)),.val (.int .i64 (s.k:Int)),.val (.int .i64 s.ar),.val (.int .i64 s.pt),.val (.bool s.dd),.val (.int .i64 s.wr)]⟩,⟨v1,.bytes s.l⟩] (ak (.al [.val (.pointer none),.val (.int .i64 6)]) [⟨v0,.obj [.own 1 v1 1 0 s.l.length,.val (.int .i64 (X:Int)),.val (.int .i64 (s.k:Int)),.val (.int .i64 s.ar),.val (.int .i64 s.pt),.val (.bool s.dd),.val (.int .i64 s.wr)]⟩,⟨v1,.bytes s.l⟩] []):=by
 have cC:=g.kk
 have cu:=g.k
 have hlen:=g.len
 have eO:=pa.fa
 have fy:=pa.fit
 have kJ:c≤4194304:=pa.ac.2
 have cq:(c:Int)*(s.k:Int)=((c*k:Nat):Int):=by rw[cu];simp
 have Et:(X:Int)=2*(c:Int):=by omega
 refine aq aj Tryz.func87 rfl Tryz.ntmps87 Tryz.results87 ?_
 refine gg (k:= ?_)
 rw[show(X:Int)/2=(c:Int) by omega,show(X:Int)%2=0 by omega]
 refine gg (k:= ?_)
 rw[decide_eq_false (by omega:¬(c:Int)*(s.k:Int)<64)]
 refine gg (k:= ?_)
 refine⟨fun _=> ?_,fun h=>absurd (h.symm.trans hd) (by decide)⟩
 refine gg (k:= ?_)
 exact⟨_,rfl,rfl,trivial⟩
theorem N1{W:Int}{n k:Nat}(s:J)(g:av W n k s)(X:Nat)(hX:n=X*k)(fg:X%2=1∨(X/2)*k<64)(v0 v1:Nat):Spec Tryz.prog 87 [.ref 0 v0 7 0 0] [⟨v0,.obj [.own 1 v1 1 0 s.l.length,.val (.int .i64 (X:Int)),.val (.int .i64 (s.k:Int)),.val (.int .i64 s.ar),.val (.int .i64 s.pt),.val (.bool s.dd),.val (.int .i64 s.wr)]⟩,⟨v1,.bytes s.l⟩] (ak (.al [.val (.pointer none),.val (.int .i64 1)]) [⟨v0,.obj [.own 1 v1 1 0 s.l.length,.val (.int .i64 (X:Int)),.val (.int .i64 (s.k:Int)),.val (.int .i64 s.ar),.val (.int .i64 s.pt),.val (.bool s.dd),.val (.int .i64 s.wr)]⟩,⟨v1,.bytes s.l⟩] []):=by
 have cC:=g.kk
 have cu:=g.k
 have hlen:=g.len
 have AL:X≤4194304:=by
  have h1:X*1≤X*k:=Nat.mul_le_mul_left X cC.1
  omega
 obtain⟨c,hc⟩:∃c,c=X/2:=⟨_,rfl⟩
 rw[←hc] at fg
 have cq:(c:Int)*(s.k:Int)=((c*k:Nat):Int):=by rw[cu];simp
 have kJ:c*k≤X*k:=Nat.mul_le_mul_right k (by omega)
 refine aq aj Tryz.func87 rfl Tryz.ntmps87 Tryz.results87 ?_
 refine gg (k:= ?_)
 rw[show(X:Int)/2=(c:Int) by omega]
 by_cases ho:X%2=1
 ·rw[show(X:Int)%2=1 by omega]
  refine gg (k:= ?_)
  exact⟨_,rfl,rfl,trivial⟩
 ·rw[show(X:Int)%2=0 by omega]
  refine gg (k:= ?_)
  exact⟨_,rfl,rfl,trivial⟩
end Go.Proofs.YtpbpiehcchannaaGreatDoor
