/- Walks of lintellaw09: does, whatever the store. Conditions: none. -/
import Derived.Test.YtpbpiehcchannaaGreatDoorJRal
import Derived.Test.YtpbpiehcchannaaGreatDoorJHm
import Derived.Test.YtpbpiehcchannaaGreatDoorJNka
namespace Go.Proofs.YtpbpiehcchannaaGreatDoor
open Go.RowKit
set_option linter.unusedVariables false
set_option linter.unusedSimpArgs false
set_option maxRecDepth 100000
set_option maxHeartbeats 3000000
/-! what a scan may tell, whatever the bytes -/
theorem NP(x:List UInt8):∀(n a:Nat),x.length - a=n→(∀r∈(bj x a).1,r.key.length≤255∧r.val.length≤65536)∧12*(bj x a).1.length≤n:=by
 intro n
 induction n using Nat.strongRecOn with
 | _ n ih=>
  intro a ha
  by_cases h:a<x.length∧x.getD a 0≠255
  ·by_cases hr:dU (x.drop a)
   ·rw[pj h hr]
    have hN:=pn (x.drop a)
    have hl:=hr.2.2.2.2.2.1
    have hk:=hr.2.2.2.1
    have hv:=hr.2.2.2.2.1
    rw[List.length_drop] at hl
    obtain⟨h1,h2⟩:=ih (x.length - (a+bU (x.drop a))) (by omega) (a+bU (x.drop a)) rfl
    refine⟨fun r hm=> ?_,by simp only[List.length_cons];omega⟩
    rcases List.mem_cons.1 hm with rfl | hm
    ·constructor
     ·show(bR (x.drop a)).length≤255
      unfold bR;rw[List.length_drop,List.length_take];omega
     ·show(b5 (x.drop a)).length≤65536
      unfold b5 bU;rw[List.length_drop,List.length_take];omega
    ·exact h1 r hm
   ·rw[po h hr]
    exact⟨by simp,by simp⟩
  ·rw[nT h]
   exact⟨by simp,by simp⟩
theorem F1(s:J)(c:Nat):(∀r∈s.au c,r.key.length≤255∧r.val.length≤65536)∧12*(s.au c).length≤c*s.k:=by
 obtain⟨h1,h2⟩:=NP (s.bE ((s.aI c).1*c) c) _ 16 rfl
 have hb:(s.bE ((s.aI c).1*c) c).length≤c*s.k:=by unfold J.bE;rw[List.length_take];omega
 refine⟨fun r hr=> ?_,?_⟩
 ·obtain⟨d,hd,rfl⟩:=List.mem_map.1 hr
  exact h1 d hd
 ·unfold J.au J.be J.scan
  rw[List.length_map]
  omega
theorem LK.any(s:J)(c:Nat)(hd:s.dd=false):LK s c (bm (s.au c)):=by
 refine⟨hd,(s.aI c).1,(s.be c).1,(s.be c).2.1,(s.be c).2.2,gC s c,rfl,rfl,rfl⟩
theorem NQ{s:J}{c:Nat}{key:List UInt8}(h:aJ (s.au c) key<0):∀r∈bm (s.au c),r.key≠key:=by
 intro r hr q
 obtain⟨j,h1,h2,h3⟩:=Fc hr
 rw[q] at h3
 omega
theorem F2{s:J}{c:Nat}{key:List UInt8}(h:¬aJ (s.au c) key<0):(s.au c).getD (aJ (s.au c) key).toNat bl∈bm (s.au c)∧((s.au c).getD (aJ (s.au c) key).toNat bl).key=key:=by
 obtain⟨j,hj⟩:∃j:Nat,aJ (s.au c) key=(j:Int):=⟨(aJ (s.au c) key).toNat,by omega⟩
 obtain⟨j1,j2,j3⟩:=mT _ _ _ _ hj
 rw[hj,Int.toNat_natCast]
 refine⟨List.mem_map.2 ⟨j,List.mem_filter.2 ⟨List.mem_range.2 j1,?_⟩,rfl⟩,j3⟩
 unfold dV
 rw[j3,hj]
 simp
/-! the power is off -/
theorem NR (s : J) (c : Nat) (hd : s.dd = true) (z : Nat) (key val : List UInt8) (vn : Nat) (j8 : vn = val.length) (cE : key.length ≤ 140737488355328) (dp : val.length ≤ 140737488355328) (vs va vb v0 v1 v3 : Nat) : Spec Tryz.prog 22 [.ref 0 vs 3 0 0, .bs z key, .own 5 v3 1 0 vn] [⟨vs, .obj [.ref 3 v0 6 0 0, .ref 1 va 3 0 0, .ref 2 vb 3 0 0]⟩, ⟨va, .obj [.ref 3 v0 6 0 0, .val (.int .i64 ((0 : Nat) : Int)), .val (.int .i64 (c : Int))]⟩, ⟨vb, .obj [.ref 3 v0 6 0 0, .val (.int .i64 (c : Int)), .val (.int .i64 (c : Int))]⟩, ⟨v0, .obj [.own 4 v1 1 0 s.l.length, .val (.int .i64 (s.k : Int)), .val (.int .i64 s.ar), .val (.int .i64 s.pt), .val (.bool s.dd), .val (.int .i64 s.wr)]⟩, ⟨v1, .bytes s.l⟩, ⟨v3, .bytes val⟩]
   (ak (.val (.int .i64 (s.set c key val).1)) [⟨vs,.obj [.ref 3 v0 6 0 0,.ref 1 va 3 0 0,.ref 2 vb 3 0 0]⟩,⟨va,.obj [.ref 3 v0 6 0 0,.val (.int .i64 ((0:Nat):Int)),.val (.int .i64 (c:Int))]⟩,⟨vb,.obj [.ref 3 v0 6 0 0,.val (.int .i64 (c:Int)),.val (.int .i64 (c:Int))]⟩,⟨v0,.obj [.own 4 v1 1 0 s.l.length,.val (.int .i64 (s.k:Int)),.val (.int .i64 s.ar),.val (.int .i64 s.pt),.val (.bool s.dd),.val (.int .i64 s.wr)]⟩,⟨v1,.bytes s.l⟩,⟨v3,.bytes val⟩] []):=by
 subst j8
 refine aq aj Tryz.func22 rfl Tryz.ntmps22 Tryz.results22 ?_
 by_cases fg:key.length<1∨255<key.length∨65536<val.length
 ·rw[show s.set c key val=(1,s) from if_pos fg]
  refine gg (k:= ?_)
  exact⟨_,rfl,rfl,trivial⟩
 rw[show s.set c key val=(6,s) from(if_neg fg).trans (if_pos hd)]
 refine gg (k:= ?_)
 refine ae (mR s c hd vs va vb v0 v1) Tryz.call77 5 [0,1,2,3,4] [0,0,0,0,0] [] ?_
 refine gg (k:= ?_)
 exact⟨_,rfl,rfl,trivial⟩
theorem NS (s : J) (c : Nat) (hd : s.dd = true) (z : Nat) (key : List UInt8) (vs va vb v0 v1 : Nat) : Spec Tryz.prog 64 [.ref 0 vs 3 0 0, .bs z key] [⟨vs, .obj [.ref 3 v0 6 0 0, .ref 1 va 3 0 0, .ref 2 vb 3 0 0]⟩, ⟨va, .obj [.ref 3 v0 6 0 0, .val (.int .i64 ((0 : Nat) : Int)), .val (.int .i64 (c : Int))]⟩, ⟨vb, .obj [.ref 3 v0 6 0 0, .val (.int .i64 (c : Int)), .val (.int .i64 (c : Int))]⟩, ⟨v0, .obj [.own 4 v1 1 0 s.l.length, .val (.int .i64 (s.k : Int)), .val (.int .i64 s.ar), .val (.int .i64 s.pt), .val (.bool s.dd), .val (.int .i64 s.wr)]⟩, ⟨v1, .bytes s.l⟩]
   (ak (.al [.val (.slice none 0 0),.val (.bool false),.val (.int .i64 6)]) [⟨vs,.obj [.ref 3 v0 6 0 0,.ref 1 va 3 0 0,.ref 2 vb 3 0 0]⟩,⟨va,.obj [.ref 3 v0 6 0 0,.val (.int .i64 ((0:Nat):Int)),.val (.int .i64 (c:Int))]⟩,⟨vb,.obj [.ref 3 v0 6 0 0,.val (.int .i64 (c:Int)),.val (.int .i64 (c:Int))]⟩,⟨v0,.obj [.own 4 v1 1 0 s.l.length,.val (.int .i64 (s.k:Int)),.val (.int .i64 s.ar),.val (.int .i64 s.pt),.val (.bool s.dd),.val (.int .i64 s.wr)]⟩,⟨v1,.bytes s.l⟩] []):=by
 refine aq aj Tryz.func64 rfl Tryz.ntmps64 Tryz.results64 ?_
 refine gg (k:= ?_)
 refine ae (mR s c hd vs va vb v0 v1) Tryz.call77 5 [0,1,2,3,4] [0,0,0,0,0] [] ?_
 refine gg (k:= ?_)
 exact⟨_,rfl,rfl,trivial⟩
theorem NT (s : J) (c : Nat) (hd : s.dd = true) (vs va vb v0 v1 : Nat) : Spec Tryz.prog 74 [.ref 0 vs 3 0 0] [⟨vs, .obj [.ref 3 v0 6 0 0, .ref 1 va 3 0 0, .ref 2 vb 3 0 0]⟩, ⟨va, .obj [.ref 3 v0 6 0 0, .val (.int .i64 ((0 : Nat) : Int)), .val (.int .i64 (c : Int))]⟩, ⟨vb, .obj [.ref 3 v0 6 0 0, .val (.int .i64 (c : Int)), .val (.int .i64 (c : Int))]⟩, ⟨v0, .obj [.own 4 v1 1 0 s.l.length, .val (.int .i64 (s.k : Int)), .val (.int .i64 s.ar), .val (.int .i64 s.pt), .val (.bool s.dd), .val (.int .i64 s.wr)]⟩, ⟨v1, .bytes s.l⟩]
   (ak (.al [.val (.int .i64 0),.val (.int .i64 6)]) [⟨vs,.obj [.ref 3 v0 6 0 0,.ref 1 va 3 0 0,.ref 2 vb 3 0 0]⟩,⟨va,.obj [.ref 3 v0 6 0 0,.val (.int .i64 ((0:Nat):Int)),.val (.int .i64 (c:Int))]⟩,⟨vb,.obj [.ref 3 v0 6 0 0,.val (.int .i64 (c:Int)),.val (.int .i64 (c:Int))]⟩,⟨v0,.obj [.own 4 v1 1 0 s.l.length,.val (.int .i64 (s.k:Int)),.val (.int .i64 s.ar),.val (.int .i64 s.pt),.val (.bool s.dd),.val (.int .i64 s.wr)]⟩,⟨v1,.bytes s.l⟩] []):=by
 refine aq aj Tryz.func74 rfl Tryz.ntmps74 Tryz.results74 ?_
 refine gg (k:= ?_)
 refine ae (mR s c hd vs va vb v0 v1) Tryz.call77 5 [0,1,2,3,4] [0,0,0,0,0] [] ?_
 refine gg (k:= ?_)
 refine ae (FU) Tryz.call79 0 [] [] [] ?_
 refine gg (k:= ?_)
 exact⟨_,rfl,rfl,trivial⟩
theorem NU(z:Nat)(key val:List UInt8)(vn:Nat)(j8:vn=val.length)(v3:Nat):Spec Tryz.prog 22 [.val (.pointer none),.bs z key,.own 0 v3 1 0 vn] [⟨v3,.bytes val⟩] (ak (.val (.int .i64 2)) [⟨v3,.bytes val⟩] []):=by
 subst j8
 exact jY (Ny 0 0 key ((val.drop 0).take val.length)) trivial trivial (rows:=[⟨v3,.bytes val⟩]) (args:=[.val (.pointer none),.bs z key,.own 0 v3 1 0 val.length]) (du lR (du qE (du (kC (l:=val) rfl (by omega)) fT)))
theorem NV {W : Int} {n k : Nat} (s : J) (c : Nat) (g : av W n k s) (hW : W ≤ 100000000000000) (pa : aC n k 0 c) (pb : aC n k c c) (AA : c * k ≤ 4096) (o : dg) (ho : fE o) (hK : o.K ≠ 0) (vs va vb v0 v1 : Nat) :
    Spec Tryz.prog 28 [.ref 3 v0 6 0 0,.ref 0 vs 3 0 0,.agg (aN 0 o)] [⟨vs,.obj [.ref 3 v0 6 0 0,.ref 1 va 3 0 0,.ref 2 vb 3 0 0]⟩,⟨va,.obj [.ref 3 v0 6 0 0,.val (.int .i64 ((0:Nat):Int)),.val (.int .i64 (c:Int))]⟩,⟨vb,.obj [.ref 3 v0 6 0 0,.val (.int .i64 (c:Int)),.val (.int .i64 (c:Int))]⟩,⟨v0,.obj [.own 4 v1 1 0 s.l.length,.val (.int .i64 (s.k:Int)),.val (.int .i64 s.ar),.val (.int .i64 s.pt),.val (.bool s.dd),.val (.int .i64 s.wr)]⟩,⟨v1,.bytes s.l⟩] (ak (.al [.agg [.bs 0 (dx s c o).1.b,.sl 0 1 (fun k:List UInt8=>[AV.bs 0 k]) [] (dx s c o).1.l,.val (.int .i64 (dx s c o).1.n),.val (.bool (dx s c o).1.is),.val (.int .i64 (dx s c o).1.e)],.ref 0 vs 3 0 0,.val (.bool true)]) [⟨vs,.obj [.ref 3 v0 6 0 0,.ref 1 va 3 0 0,.ref 2 vb 3 0 0]⟩,⟨va,.obj [.ref 3 v0 6 0 0,.val (.int .i64 ((0:Nat):Int)),.val (.int .i64 (c:Int))]⟩,⟨vb,.obj [.ref 3 v0 6 0 0,.val (.int .i64 (c:Int)),.val (.int .i64 (c:Int))]⟩,⟨v0,.obj [.own 4 v1 1 0 (dx s c o).2.l.length,.val (.int .i64 ((dx s c o).2.k:Int)),.val (.int .i64 (dx s c o).2.ar),.val (.int .i64 (dx s c o).2.pt),.val (.bool (dx s c o).2.dd),.val (.int .i64 (dx s c o).2.wr)]⟩,⟨v1,.bytes (dx s c o).2.l⟩] []):=by
 have oC:=ho
 obtain⟨K,m,q,key,val⟩:=o
 have hk:=ho.key
 have hv:=ho.val
 have hn:=ho.n
 have hp:=ho.p
 simp only at hk hv hn hp hK
 have eP:=F1 s c
 rw[g.k] at eP
 have kB:∀r∈bm (s.au c),r∈s.au c:=fun r hr=>(dR (s.au c)).subset hr
 have dn:=(dR (s.au c)).length_le
 unfold dx
 simp only
 by_cases h1:K=1
 ·rw[if_pos h1]
  unfold J.kd
  by_cases hd:s.dd=true
  ·rw[if_pos hd]
   have hx:=NS s c hd 0 key vs va vb v0 v1
   have h:Spec Tryz.prog 28 [.ref 3 v0 6 0 0,.ref 0 vs 3 0 0,.agg (aN 0 ⟨K,m,q,key,val⟩)] [⟨vs,.obj [.ref 3 v0 6 0 0,.ref 1 va 3 0 0,.ref 2 vb 3 0 0]⟩,⟨va,.obj [.ref 3 v0 6 0 0,.val (.int .i64 ((0:Nat):Int)),.val (.int .i64 (c:Int))]⟩,⟨vb,.obj [.ref 3 v0 6 0 0,.val (.int .i64 (c:Int)),.val (.int .i64 (c:Int))]⟩,⟨v0,.obj [.own 4 v1 1 0 s.l.length,.val (.int .i64 (s.k:Int)),.val (.int .i64 s.ar),.val (.int .i64 s.pt),.val (.bool s.dd),.val (.int .i64 s.wr)]⟩,⟨v1,.bytes s.l⟩] (ak (.al [.agg [.bs 0 [],.val (.slice none 0 0),.val (.int .i64 0),.val (.bool false),.val (.int .i64 6)],.ref 0 vs 3 0 0,.val (.bool true)]) [⟨vs,.obj [.ref 3 v0 6 0 0,.ref 1 va 3 0 0,.ref 2 vb 3 0 0]⟩,⟨va,.obj [.ref 3 v0 6 0 0,.val (.int .i64 ((0:Nat):Int)),.val (.int .i64 (c:Int))]⟩,⟨vb,.obj [.ref 3 v0 6 0 0,.val (.int .i64 (c:Int)),.val (.int .i64 (c:Int))]⟩,⟨v0,.obj [.own 4 v1 1 0 s.l.length,.val (.int .i64 (s.k:Int)),.val (.int .i64 s.ar),.val (.int .i64 s.pt),.val (.bool s.dd),.val (.int .i64 s.wr)]⟩,⟨v1,.bytes s.l⟩] []):=by
    subst h1
    (
 refine aq aj Tryz.func28 rfl Tryz.ntmps28 Tryz.results28 ?_
 unfold aN
 simp only
 refine gg (k:= ?_)
 refine ae (fc 0 key hk) Tryz.call23 0 [] [] [] ?_
 refine gg (k:= ?_)
 refine ae (ek 0 val hv) Tryz.call23 0 [0,0,0,34] [0,0,0,1] [3] ?_
 refine gg (k := ?_))
    refine ae (hx) Tryz.call64 5 [0,1,2,3,4] [0,0,0,0,0] [] ?_
    (
 refine gg (k:= ?_)
 refine ae (zP) Tryz.call23 0 [] [] [] ?_
 refine gg (k:= ?_)
 (refine ax (k:= ?_))
 conv=>whnf
 refine bh (fun i:Nat=>i=0) (fun i=>0) 5 [17,58,59,60,61,62,63,64,65,66] (fun i=>[(17,.val (.int .i64 0))]) (fun i=>[]) 0 rfl ?_ ?_ ?_
 ·exact no_implicit_lambda%ten
 ·exact no_implicit_lambda%az
 ·rintro i v i1
  refine bc (k:= ?_)
  refine gg (k:= ?_)
  (
 refine ae (eh 0 0 key key hk) Tryz.call19 0 [] [] [] ?_
 rw[decide_eq_true (rfl:key=key)]
 refine gg (k:= ?_)
 refine ae (fF val val.length rfl hv 3 0) Tryz.call19 1 [34] [0] [] ?_
 refine gg (k:= ?_)
 (refine ax (k:= ?_))
 conv=>whnf
 refine bh (fun y:Nat×List UInt8=>y.1≤val.length∧y.2.length=val.length) (fun y=>val.length - y.1) 5 [23,153,154,155,156,157,158,159,160,161] (fun y=>[(23,.val (.int .i64 (y.1:Int)))]) (fun y=>[(34,⟨3,.bytes y.2⟩)]) (0,val) ⟨Nat.zero_le _,rfl⟩ ?_ ?_ ?_
 ·exact no_implicit_lambda%ten
 ·exact no_implicit_lambda%az
 ·rintro⟨i,w⟩ u ⟨u1,u2⟩
  simp only at u1 u2
  refine bc (k:= ?_)
  refine gg (k:= ?_)
  refine⟨fun h=> ?_,fun h=> ?_⟩
  ·have ai:i<val.length:=by have:=of_decide_eq_true h;omega
   refine gg (k:= ?_)
   refine aM (i+1,w.set (0+(i:Int).toNat) (UInt8.ofNat (Int.toNat 85))) ⟨ai,by simp[u2]⟩ (by show val.length - (i+1)<val.length - i;omega) ?_ ?_
   ·exact no_implicit_lambda%ten
   ·exact no_implicit_lambda%az
  ·refine gg (k:= ?_)
   exact⟨_,rfl,rfl,trivial⟩))
   exact br h trivial (AF.al (af.cons (AF.agg (af.cons AF.same (af.cons AF.cF (af.cons AF.same (af.cons AF.same (af.cons AF.same af.nil)))))) (af.cons AF.same (af.cons AF.same af.nil)))) ⟨rfl,BF.same,rfl,BF.same,rfl,BF.same,rfl,BF.same,rfl,BF.same,trivial⟩
  rw[if_neg hd]
  have hd:s.dd=false:=by simpa using hd
  by_cases hL:aJ (s.au c) key<0
  ·rw[if_pos hL]
   have h:=LQ s c (LK.any s c hd) g pa pb ⟨K,m,q,key,val⟩ oC h1 (NQ hL) vs va vb v0 v1
   exact br h trivial (AF.al (af.cons (AF.agg (af.cons AF.same (af.cons AF.cF (af.cons AF.same (af.cons AF.same (af.cons AF.same af.nil)))))) (af.cons AF.same (af.cons AF.same af.nil)))) ⟨rfl,BF.same,rfl,BF.same,rfl,BF.same,rfl,BF.same,rfl,BF.same,trivial⟩
  ·rw[if_neg hL]
   obtain⟨h2,h3⟩:=F2 hL
   have h:=LR s c (LK.any s c hd) g pa pb ⟨K,m,q,key,val⟩ oC h1 _ h2 h3 (eP.1 _ (kB _ h2)).2 vs va vb v0 v1
   exact br h trivial (AF.al (af.cons (AF.agg (af.cons AF.same (af.cons AF.cF (af.cons AF.same (af.cons AF.same (af.cons AF.same af.nil)))))) (af.cons AF.same (af.cons AF.same af.nil)))) ⟨rfl,BF.same,rfl,BF.same,rfl,BF.same,rfl,BF.same,rfl,BF.same,trivial⟩
 rw[if_neg h1]
 by_cases h2:K=2
 ·rw[if_pos h2]
  by_cases hd:s.dd=true
  ·have hx:=NR s c hd 0 key val val.length rfl hk hv vs va vb v0 v1 3
   have y9:(s.set c key val).2=s:=by
    unfold J.set
    split
    ·rfl
    ·first | rfl | rw[if_pos hd]
   rw[y9]
   have h:Spec Tryz.prog 28 [.ref 3 v0 6 0 0,.ref 0 vs 3 0 0,.agg (aN 0 ⟨K,m,q,key,val⟩)] [⟨vs,.obj [.ref 3 v0 6 0 0,.ref 1 va 3 0 0,.ref 2 vb 3 0 0]⟩,⟨va,.obj [.ref 3 v0 6 0 0,.val (.int .i64 ((0:Nat):Int)),.val (.int .i64 (c:Int))]⟩,⟨vb,.obj [.ref 3 v0 6 0 0,.val (.int .i64 (c:Int)),.val (.int .i64 (c:Int))]⟩,⟨v0,.obj [.own 4 v1 1 0 s.l.length,.val (.int .i64 (s.k:Int)),.val (.int .i64 s.ar),.val (.int .i64 s.pt),.val (.bool s.dd),.val (.int .i64 s.wr)]⟩,⟨v1,.bytes s.l⟩] (ak (.al [.agg [.val (.slice none 0 0),.val (.slice none 0 0),.val (.int .i64 0),.val (.bool false),.val (.int .i64 (s.set c key val).1)],.ref 0 vs 3 0 0,.val (.bool true)]) [⟨vs,.obj [.ref 3 v0 6 0 0,.ref 1 va 3 0 0,.ref 2 vb 3 0 0]⟩,⟨va,.obj [.ref 3 v0 6 0 0,.val (.int .i64 ((0:Nat):Int)),.val (.int .i64 (c:Int))]⟩,⟨vb,.obj [.ref 3 v0 6 0 0,.val (.int .i64 (c:Int)),.val (.int .i64 (c:Int))]⟩,⟨v0,.obj [.own 4 v1 1 0 s.l.length,.val (.int .i64 (s.k:Int)),.val (.int .i64 s.ar),.val (.int .i64 s.pt),.val (.bool s.dd),.val (.int .i64 s.wr)]⟩,⟨v1,.bytes s.l⟩] []):=by
    subst h2
    generalize (s.set c key val).1=T at hx⊢
    (
 refine aq aj Tryz.func28 rfl Tryz.ntmps28 Tryz.results28 ?_
 unfold aN
 simp only
 refine gg (k:= ?_)
 refine ae (fc 0 key hk) Tryz.call23 0 [] [] [] ?_
 refine gg (k:= ?_)
 refine ae (ek 0 val hv) Tryz.call23 0 [0,0,0,34] [0,0,0,1] [3] ?_
 refine gg (k := ?_))
    refine ae (hx) Tryz.call22 6 [0,1,2,3,4,34] [0,0,0,0,0,0] [] ?_
    refine gg (k:= ?_)
    (
 refine ae (eh 0 0 key key hk) Tryz.call19 0 [] [] [] ?_
 rw[decide_eq_true (rfl:key=key)]
 refine gg (k:= ?_)
 refine ae (fF val val.length rfl hv 3 0) Tryz.call19 1 [34] [0] [] ?_
 refine gg (k:= ?_)
 (refine ax (k:= ?_))
 conv=>whnf
 refine bh (fun y:Nat×List UInt8=>y.1≤val.length∧y.2.length=val.length) (fun y=>val.length - y.1) 5 [23,153,154,155,156,157,158,159,160,161] (fun y=>[(23,.val (.int .i64 (y.1:Int)))]) (fun y=>[(34,⟨3,.bytes y.2⟩)]) (0,val) ⟨Nat.zero_le _,rfl⟩ ?_ ?_ ?_
 ·exact no_implicit_lambda%ten
 ·exact no_implicit_lambda%az
 ·rintro⟨i,w⟩ u ⟨u1,u2⟩
  simp only at u1 u2
  refine bc (k:= ?_)
  refine gg (k:= ?_)
  refine⟨fun h=> ?_,fun h=> ?_⟩
  ·have ai:i<val.length:=by have:=of_decide_eq_true h;omega
   refine gg (k:= ?_)
   refine aM (i+1,w.set (0+(i:Int).toNat) (UInt8.ofNat (Int.toNat 85))) ⟨ai,by simp[u2]⟩ (by show val.length - (i+1)<val.length - i;omega) ?_ ?_
   ·exact no_implicit_lambda%ten
   ·exact no_implicit_lambda%az
  ·refine gg (k:= ?_)
   exact⟨_,rfl,rfl,trivial⟩)
   exact br h trivial (AF.al (af.cons (AF.agg (af.cons AF.nil (af.cons AF.cF (af.cons AF.same (af.cons AF.same (af.cons AF.same af.nil)))))) (af.cons AF.same (af.cons AF.same af.nil)))) ⟨rfl,BF.same,rfl,BF.same,rfl,BF.same,rfl,BF.same,rfl,BF.same,trivial⟩
  ·have h:=LN s c g (by omega) pa pb (by simpa using hd) ⟨K,m,q,key,val⟩ oC h2 vs va vb v0 v1
   exact br h trivial (AF.al (af.cons (AF.agg (af.cons AF.nil (af.cons AF.cF (af.cons AF.same (af.cons AF.same (af.cons AF.same af.nil)))))) (af.cons AF.same (af.cons AF.same af.nil)))) ⟨rfl,BF.same,rfl,BF.same,rfl,BF.same,rfl,BF.same,rfl,BF.same,trivial⟩
 rw[if_neg h2]
 by_cases h3:K=3
 ·rw[if_pos h3]
  have h:=LO s c g (by omega) pa pb ⟨K,m,q,key,val⟩ oC h3 vs va vb v0 v1
  exact br h trivial (AF.al (af.cons (AF.agg (af.cons AF.nil (af.cons AF.cF (af.cons AF.same (af.cons AF.same (af.cons AF.same af.nil)))))) (af.cons AF.same (af.cons AF.same af.nil)))) ⟨rfl,BF.same,rfl,BF.same,rfl,BF.same,rfl,BF.same,rfl,BF.same,trivial⟩
 rw[if_neg h3]
 by_cases h4:K=4
 ·rw[if_pos h4]
  unfold J.me
  by_cases hd:s.dd=true
  ·rw[if_pos hd]
   have hx:=NN s c hd vs va vb v0 v1
   have h:Spec Tryz.prog 28 [.ref 3 v0 6 0 0,.ref 0 vs 3 0 0,.agg (aN 0 ⟨K,m,q,key,val⟩)] [⟨vs,.obj [.ref 3 v0 6 0 0,.ref 1 va 3 0 0,.ref 2 vb 3 0 0]⟩,⟨va,.obj [.ref 3 v0 6 0 0,.val (.int .i64 ((0:Nat):Int)),.val (.int .i64 (c:Int))]⟩,⟨vb,.obj [.ref 3 v0 6 0 0,.val (.int .i64 (c:Int)),.val (.int .i64 (c:Int))]⟩,⟨v0,.obj [.own 4 v1 1 0 s.l.length,.val (.int .i64 (s.k:Int)),.val (.int .i64 s.ar),.val (.int .i64 s.pt),.val (.bool s.dd),.val (.int .i64 s.wr)]⟩,⟨v1,.bytes s.l⟩] (ak (.al [.agg [.val (.slice none 0 0),.val (.slice none 0 0),.val (.int .i64 0),.val (.bool false),.val (.int .i64 6)],.ref 0 vs 3 0 0,.val (.bool true)]) [⟨vs,.obj [.ref 3 v0 6 0 0,.ref 1 va 3 0 0,.ref 2 vb 3 0 0]⟩,⟨va,.obj [.ref 3 v0 6 0 0,.val (.int .i64 ((0:Nat):Int)),.val (.int .i64 (c:Int))]⟩,⟨vb,.obj [.ref 3 v0 6 0 0,.val (.int .i64 (c:Int)),.val (.int .i64 (c:Int))]⟩,⟨v0,.obj [.own 4 v1 1 0 s.l.length,.val (.int .i64 (s.k:Int)),.val (.int .i64 s.ar),.val (.int .i64 s.pt),.val (.bool s.dd),.val (.int .i64 s.wr)]⟩,⟨v1,.bytes s.l⟩] []):=by
    subst h4
    (
 refine aq aj Tryz.func28 rfl Tryz.ntmps28 Tryz.results28 ?_
 unfold aN
 simp only
 refine gg (k:= ?_)
 refine ae (fc 0 key hk) Tryz.call23 0 [] [] [] ?_
 refine gg (k:= ?_)
 refine ae (ek 0 val hv) Tryz.call23 0 [0,0,0,34] [0,0,0,1] [3] ?_
 refine gg (k := ?_))
    refine ae (hx) Tryz.call72 5 [0,1,2,3,4] [0,0,0,0,0] [] ?_
    (
 refine gg (k:= ?_)
 (refine ax (k:= ?_))
 conv=>whnf
 refine bh (fun i:Nat=>i=0) (fun i=>0) 5 [20,21,89,90,91,92,93,94,95,96,97,98,99,100,101,102,103,104,105,106,107,108,109,110,111,112,113,114,115,116,117,118,119] (fun i=>[(20,.val (.int .i64 0))]) (fun i=>[]) 0 rfl ?_ ?_ ?_
 ·exact no_implicit_lambda%ten
 ·exact no_implicit_lambda%az
 ·rintro i v i1
  refine bc (k:= ?_)
  refine gg (k:= ?_)
  (
 refine ae (eh 0 0 key key hk) Tryz.call19 0 [] [] [] ?_
 rw[decide_eq_true (rfl:key=key)]
 refine gg (k:= ?_)
 refine ae (fF val val.length rfl hv 3 0) Tryz.call19 1 [34] [0] [] ?_
 refine gg (k:= ?_)
 (refine ax (k:= ?_))
 conv=>whnf
 refine bh (fun y:Nat×List UInt8=>y.1≤val.length∧y.2.length=val.length) (fun y=>val.length - y.1) 5 [23,153,154,155,156,157,158,159,160,161] (fun y=>[(23,.val (.int .i64 (y.1:Int)))]) (fun y=>[(34,⟨3,.bytes y.2⟩)]) (0,val) ⟨Nat.zero_le _,rfl⟩ ?_ ?_ ?_
 ·exact no_implicit_lambda%ten
 ·exact no_implicit_lambda%az
 ·rintro⟨i,w⟩ u ⟨u1,u2⟩
  simp only at u1 u2
  refine bc (k:= ?_)
  refine gg (k:= ?_)
  refine⟨fun h=> ?_,fun h=> ?_⟩
  ·have ai:i<val.length:=by have:=of_decide_eq_true h;omega
   refine gg (k:= ?_)
   refine aM (i+1,w.set (0+(i:Int).toNat) (UInt8.ofNat (Int.toNat 85))) ⟨ai,by simp[u2]⟩ (by show val.length - (i+1)<val.length - i;omega) ?_ ?_
   ·exact no_implicit_lambda%ten
   ·exact no_implicit_lambda%az
  ·refine gg (k:= ?_)
   exact⟨_,rfl,rfl,trivial⟩))
   exact br h trivial (AF.al (af.cons (AF.agg (af.cons AF.nil (af.cons AF.cF (af.cons AF.same (af.cons AF.same (af.cons AF.same af.nil)))))) (af.cons AF.same (af.cons AF.same af.nil)))) ⟨rfl,BF.same,rfl,BF.same,rfl,BF.same,rfl,BF.same,rfl,BF.same,trivial⟩
  rw[if_neg hd]
  have hd:s.dd=false:=by simpa using hd
  have h:=LV s c (LK.any s c hd) g pa pb ⟨K,m,q,key,val⟩ oC h4 (wg (s.au c)) (fun r hr=>(eP.1 _ (kB _ hr)).1) (by omega) vs va vb v0 v1
  exact br h trivial (AF.al (af.cons (AF.agg (af.cons AF.nil (af.cons AF.same (af.cons AF.same (af.cons AF.same (af.cons AF.same af.nil)))))) (af.cons AF.same (af.cons AF.same af.nil)))) ⟨rfl,BF.same,rfl,BF.same,rfl,BF.same,rfl,BF.same,rfl,BF.same,trivial⟩
 rw[if_neg h4]
 by_cases h5:K=5
 ·rw[if_pos h5]
  unfold J.nf
  by_cases hd:s.dd=true
  ·rw[if_pos hd]
   have hx:=NT s c hd vs va vb v0 v1
   have h:Spec Tryz.prog 28 [.ref 3 v0 6 0 0,.ref 0 vs 3 0 0,.agg (aN 0 ⟨K,m,q,key,val⟩)] [⟨vs,.obj [.ref 3 v0 6 0 0,.ref 1 va 3 0 0,.ref 2 vb 3 0 0]⟩,⟨va,.obj [.ref 3 v0 6 0 0,.val (.int .i64 ((0:Nat):Int)),.val (.int .i64 (c:Int))]⟩,⟨vb,.obj [.ref 3 v0 6 0 0,.val (.int .i64 (c:Int)),.val (.int .i64 (c:Int))]⟩,⟨v0,.obj [.own 4 v1 1 0 s.l.length,.val (.int .i64 (s.k:Int)),.val (.int .i64 s.ar),.val (.int .i64 s.pt),.val (.bool s.dd),.val (.int .i64 s.wr)]⟩,⟨v1,.bytes s.l⟩] (ak (.al [.agg [.val (.slice none 0 0),.val (.slice none 0 0),.val (.int .i64 0),.val (.bool false),.val (.int .i64 6)],.ref 0 vs 3 0 0,.val (.bool true)]) [⟨vs,.obj [.ref 3 v0 6 0 0,.ref 1 va 3 0 0,.ref 2 vb 3 0 0]⟩,⟨va,.obj [.ref 3 v0 6 0 0,.val (.int .i64 ((0:Nat):Int)),.val (.int .i64 (c:Int))]⟩,⟨vb,.obj [.ref 3 v0 6 0 0,.val (.int .i64 (c:Int)),.val (.int .i64 (c:Int))]⟩,⟨v0,.obj [.own 4 v1 1 0 s.l.length,.val (.int .i64 (s.k:Int)),.val (.int .i64 s.ar),.val (.int .i64 s.pt),.val (.bool s.dd),.val (.int .i64 s.wr)]⟩,⟨v1,.bytes s.l⟩] []):=by
    subst h5
    (
 refine aq aj Tryz.func28 rfl Tryz.ntmps28 Tryz.results28 ?_
 unfold aN
 simp only
 refine gg (k:= ?_)
 refine ae (fc 0 key hk) Tryz.call23 0 [] [] [] ?_
 refine gg (k:= ?_)
 refine ae (ek 0 val hv) Tryz.call23 0 [0,0,0,34] [0,0,0,1] [3] ?_
 refine gg (k := ?_))
    refine ae (hx) Tryz.call74 5 [0,1,2,3,4] [0,0,0,0,0] [] ?_
    refine gg (k:= ?_)
    (
 refine ae (eh 0 0 key key hk) Tryz.call19 0 [] [] [] ?_
 rw[decide_eq_true (rfl:key=key)]
 refine gg (k:= ?_)
 refine ae (fF val val.length rfl hv 3 0) Tryz.call19 1 [34] [0] [] ?_
 refine gg (k:= ?_)
 (refine ax (k:= ?_))
 conv=>whnf
 refine bh (fun y:Nat×List UInt8=>y.1≤val.length∧y.2.length=val.length) (fun y=>val.length - y.1) 5 [23,153,154,155,156,157,158,159,160,161] (fun y=>[(23,.val (.int .i64 (y.1:Int)))]) (fun y=>[(34,⟨3,.bytes y.2⟩)]) (0,val) ⟨Nat.zero_le _,rfl⟩ ?_ ?_ ?_
 ·exact no_implicit_lambda%ten
 ·exact no_implicit_lambda%az
 ·rintro⟨i,w⟩ u ⟨u1,u2⟩
  simp only at u1 u2
  refine bc (k:= ?_)
  refine gg (k:= ?_)
  refine⟨fun h=> ?_,fun h=> ?_⟩
  ·have ai:i<val.length:=by have:=of_decide_eq_true h;omega
   refine gg (k:= ?_)
   refine aM (i+1,w.set (0+(i:Int).toNat) (UInt8.ofNat (Int.toNat 85))) ⟨ai,by simp[u2]⟩ (by show val.length - (i+1)<val.length - i;omega) ?_ ?_
   ·exact no_implicit_lambda%ten
   ·exact no_implicit_lambda%az
  ·refine gg (k:= ?_)
   exact⟨_,rfl,rfl,trivial⟩)
   exact br h trivial (AF.al (af.cons (AF.agg (af.cons AF.nil (af.cons AF.cF (af.cons AF.same (af.cons AF.same (af.cons AF.same af.nil)))))) (af.cons AF.same (af.cons AF.same af.nil)))) ⟨rfl,BF.same,rfl,BF.same,rfl,BF.same,rfl,BF.same,rfl,BF.same,trivial⟩
  rw[if_neg hd]
  have h:=LP s c (LK.any s c (by simpa using hd)) g pa pb ⟨K,m,q,key,val⟩ oC h5 vs va vb v0 v1
  exact br h trivial (AF.al (af.cons (AF.agg (af.cons AF.nil (af.cons AF.cF (af.cons AF.same (af.cons AF.same (af.cons AF.same af.nil)))))) (af.cons AF.same (af.cons AF.same af.nil)))) ⟨rfl,BF.same,rfl,BF.same,rfl,BF.same,rfl,BF.same,rfl,BF.same,trivial⟩
 rw[if_neg h5]
 by_cases h6:K=6
 ·rw[if_pos h6]
  have hx:=lT (D4 s m q hn hp v0 v1)
  have h:Spec Tryz.prog 28 [.ref 3 v0 6 0 0,.ref 0 vs 3 0 0,.agg (aN 0 ⟨K,m,q,key,val⟩)] [⟨vs,.obj [.ref 3 v0 6 0 0,.ref 1 va 3 0 0,.ref 2 vb 3 0 0]⟩,⟨va,.obj [.ref 3 v0 6 0 0,.val (.int .i64 ((0:Nat):Int)),.val (.int .i64 (c:Int))]⟩,⟨vb,.obj [.ref 3 v0 6 0 0,.val (.int .i64 (c:Int)),.val (.int .i64 (c:Int))]⟩,⟨v0,.obj [.own 4 v1 1 0 s.l.length,.val (.int .i64 (s.k:Int)),.val (.int .i64 s.ar),.val (.int .i64 s.pt),.val (.bool s.dd),.val (.int .i64 s.wr)]⟩,⟨v1,.bytes s.l⟩] (ak (.al [.agg [.val (.slice none 0 0),.val (.slice none 0 0),.val (.int .i64 0),.val (.bool false),.val (.int .i64 (s.arm m q).1)],.ref 0 vs 3 0 0,.val (.bool true)]) [⟨vs,.obj [.ref 3 v0 6 0 0,.ref 1 va 3 0 0,.ref 2 vb 3 0 0]⟩,⟨va,.obj [.ref 3 v0 6 0 0,.val (.int .i64 ((0:Nat):Int)),.val (.int .i64 (c:Int))]⟩,⟨vb,.obj [.ref 3 v0 6 0 0,.val (.int .i64 (c:Int)),.val (.int .i64 (c:Int))]⟩,⟨v0,.obj [.own 4 v1 1 0 (s.arm m q).2.l.length,.val (.int .i64 ((s.arm m q).2.k:Int)),.val (.int .i64 (s.arm m q).2.ar),.val (.int .i64 (s.arm m q).2.pt),.val (.bool (s.arm m q).2.dd),.val (.int .i64 (s.arm m q).2.wr)]⟩,⟨v1,.bytes (s.arm m q).2.l⟩] []):=by
   subst h6
   generalize s.arm m q=T at hx⊢
   (
 refine aq aj Tryz.func28 rfl Tryz.ntmps28 Tryz.results28 ?_
 unfold aN
 simp only
 refine gg (k:= ?_)
 refine ae (fc 0 key hk) Tryz.call23 0 [] [] [] ?_
 refine gg (k:= ?_)
 refine ae (ek 0 val hv) Tryz.call23 0 [0,0,0,34] [0,0,0,1] [3] ?_
 refine gg (k := ?_))
   refine ae (hx) Tryz.call30 2 [3,4] [0,0] [] ?_
   refine gg (k:= ?_)
   (
 refine ae (eh 0 0 key key hk) Tryz.call19 0 [] [] [] ?_
 rw[decide_eq_true (rfl:key=key)]
 refine gg (k:= ?_)
 refine ae (fF val val.length rfl hv 3 0) Tryz.call19 1 [34] [0] [] ?_
 refine gg (k:= ?_)
 (refine ax (k:= ?_))
 conv=>whnf
 refine bh (fun y:Nat×List UInt8=>y.1≤val.length∧y.2.length=val.length) (fun y=>val.length - y.1) 5 [23,153,154,155,156,157,158,159,160,161] (fun y=>[(23,.val (.int .i64 (y.1:Int)))]) (fun y=>[(34,⟨3,.bytes y.2⟩)]) (0,val) ⟨Nat.zero_le _,rfl⟩ ?_ ?_ ?_
 ·exact no_implicit_lambda%ten
 ·exact no_implicit_lambda%az
 ·rintro⟨i,w⟩ u ⟨u1,u2⟩
  simp only at u1 u2
  refine bc (k:= ?_)
  refine gg (k:= ?_)
  refine⟨fun h=> ?_,fun h=> ?_⟩
  ·have ai:i<val.length:=by have:=of_decide_eq_true h;omega
   refine gg (k:= ?_)
   refine aM (i+1,w.set (0+(i:Int).toNat) (UInt8.ofNat (Int.toNat 85))) ⟨ai,by simp[u2]⟩ (by show val.length - (i+1)<val.length - i;omega) ?_ ?_
   ·exact no_implicit_lambda%ten
   ·exact no_implicit_lambda%az
  ·refine gg (k:= ?_)
   exact⟨_,rfl,rfl,trivial⟩)
  exact br h trivial (AF.al (af.cons (AF.agg (af.cons AF.nil (af.cons AF.cF (af.cons AF.same (af.cons AF.same (af.cons AF.same af.nil)))))) (af.cons AF.same (af.cons AF.same af.nil)))) ⟨rfl,BF.same,rfl,BF.same,rfl,BF.same,rfl,BF.same,rfl,BF.same,trivial⟩
 rw[if_neg h6]
 by_cases h7:K=7
 ·rw[if_pos h7]
  have hx:=lT (D5 s v0 v1)
  have h:Spec Tryz.prog 28 [.ref 3 v0 6 0 0,.ref 0 vs 3 0 0,.agg (aN 0 ⟨K,m,q,key,val⟩)] [⟨vs,.obj [.ref 3 v0 6 0 0,.ref 1 va 3 0 0,.ref 2 vb 3 0 0]⟩,⟨va,.obj [.ref 3 v0 6 0 0,.val (.int .i64 ((0:Nat):Int)),.val (.int .i64 (c:Int))]⟩,⟨vb,.obj [.ref 3 v0 6 0 0,.val (.int .i64 (c:Int)),.val (.int .i64 (c:Int))]⟩,⟨v0,.obj [.own 4 v1 1 0 s.l.length,.val (.int .i64 (s.k:Int)),.val (.int .i64 s.ar),.val (.int .i64 s.pt),.val (.bool s.dd),.val (.int .i64 s.wr)]⟩,⟨v1,.bytes s.l⟩] (ak (.al [.agg [.val (.slice none 0 0),.val (.slice none 0 0),.val (.int .i64 0),.val (.bool false),.val (.int .i64 s.on.1)],.ref 0 vs 3 0 0,.val (.bool true)]) [⟨vs,.obj [.ref 3 v0 6 0 0,.ref 1 va 3 0 0,.ref 2 vb 3 0 0]⟩,⟨va,.obj [.ref 3 v0 6 0 0,.val (.int .i64 ((0:Nat):Int)),.val (.int .i64 (c:Int))]⟩,⟨vb,.obj [.ref 3 v0 6 0 0,.val (.int .i64 (c:Int)),.val (.int .i64 (c:Int))]⟩,⟨v0,.obj [.own 4 v1 1 0 s.on.2.l.length,.val (.int .i64 (s.on.2.k:Int)),.val (.int .i64 s.on.2.ar),.val (.int .i64 s.on.2.pt),.val (.bool s.on.2.dd),.val (.int .i64 s.on.2.wr)]⟩,⟨v1,.bytes s.on.2.l⟩] []):=by
   subst h7
   generalize s.on=T at hx⊢
   (
 refine aq aj Tryz.func28 rfl Tryz.ntmps28 Tryz.results28 ?_
 unfold aN
 simp only
 refine gg (k:= ?_)
 refine ae (fc 0 key hk) Tryz.call23 0 [] [] [] ?_
 refine gg (k:= ?_)
 refine ae (ek 0 val hv) Tryz.call23 0 [0,0,0,34] [0,0,0,1] [3] ?_
 refine gg (k := ?_))
   refine ae (hx) Tryz.call32 2 [3,4] [0,0] [] ?_
   refine gg (k:= ?_)
   (
 refine ae (eh 0 0 key key hk) Tryz.call19 0 [] [] [] ?_
 rw[decide_eq_true (rfl:key=key)]
 refine gg (k:= ?_)
 refine ae (fF val val.length rfl hv 3 0) Tryz.call19 1 [34] [0] [] ?_
 refine gg (k:= ?_)
 (refine ax (k:= ?_))
 conv=>whnf
 refine bh (fun y:Nat×List UInt8=>y.1≤val.length∧y.2.length=val.length) (fun y=>val.length - y.1) 5 [23,153,154,155,156,157,158,159,160,161] (fun y=>[(23,.val (.int .i64 (y.1:Int)))]) (fun y=>[(34,⟨3,.bytes y.2⟩)]) (0,val) ⟨Nat.zero_le _,rfl⟩ ?_ ?_ ?_
 ·exact no_implicit_lambda%ten
 ·exact no_implicit_lambda%az
 ·rintro⟨i,w⟩ u ⟨u1,u2⟩
  simp only at u1 u2
  refine bc (k:= ?_)
  refine gg (k:= ?_)
  refine⟨fun h=> ?_,fun h=> ?_⟩
  ·have ai:i<val.length:=by have:=of_decide_eq_true h;omega
   refine gg (k:= ?_)
   refine aM (i+1,w.set (0+(i:Int).toNat) (UInt8.ofNat (Int.toNat 85))) ⟨ai,by simp[u2]⟩ (by show val.length - (i+1)<val.length - i;omega) ?_ ?_
   ·exact no_implicit_lambda%ten
   ·exact no_implicit_lambda%az
  ·refine gg (k:= ?_)
   exact⟨_,rfl,rfl,trivial⟩)
  exact br h trivial (AF.al (af.cons (AF.agg (af.cons AF.nil (af.cons AF.cF (af.cons AF.same (af.cons AF.same (af.cons AF.same af.nil)))))) (af.cons AF.same (af.cons AF.same af.nil)))) ⟨rfl,BF.same,rfl,BF.same,rfl,BF.same,rfl,BF.same,rfl,BF.same,trivial⟩
 rw[if_neg h7]
 have h:Spec Tryz.prog 28 [.ref 3 v0 6 0 0,.ref 0 vs 3 0 0,.agg (aN 0 ⟨K,m,q,key,val⟩)] [⟨vs,.obj [.ref 3 v0 6 0 0,.ref 1 va 3 0 0,.ref 2 vb 3 0 0]⟩,⟨va,.obj [.ref 3 v0 6 0 0,.val (.int .i64 ((0:Nat):Int)),.val (.int .i64 (c:Int))]⟩,⟨vb,.obj [.ref 3 v0 6 0 0,.val (.int .i64 (c:Int)),.val (.int .i64 (c:Int))]⟩,⟨v0,.obj [.own 4 v1 1 0 s.l.length,.val (.int .i64 (s.k:Int)),.val (.int .i64 s.ar),.val (.int .i64 s.pt),.val (.bool s.dd),.val (.int .i64 s.wr)]⟩,⟨v1,.bytes s.l⟩] (ak (.al [.agg [.val (.slice none 0 0),.val (.slice none 0 0),.val (.int .i64 0),.val (.bool false),.val (.int .i64 0)],.ref 0 vs 3 0 0,.val (.bool true)]) [⟨vs,.obj [.ref 3 v0 6 0 0,.ref 1 va 3 0 0,.ref 2 vb 3 0 0]⟩,⟨va,.obj [.ref 3 v0 6 0 0,.val (.int .i64 ((0:Nat):Int)),.val (.int .i64 (c:Int))]⟩,⟨vb,.obj [.ref 3 v0 6 0 0,.val (.int .i64 (c:Int)),.val (.int .i64 (c:Int))]⟩,⟨v0,.obj [.own 4 v1 1 0 s.l.length,.val (.int .i64 (s.k:Int)),.val (.int .i64 s.ar),.val (.int .i64 s.pt),.val (.bool s.dd),.val (.int .i64 s.wr)]⟩,⟨v1,.bytes s.l⟩] []):=by
  (
 refine aq aj Tryz.func28 rfl Tryz.ntmps28 Tryz.results28 ?_
 unfold aN
 simp only
 refine gg (k:= ?_)
 refine ae (fc 0 key hk) Tryz.call23 0 [] [] [] ?_
 refine gg (k:= ?_)
 refine ae (ek 0 val hv) Tryz.call23 0 [0,0,0,34] [0,0,0,1] [3] ?_
 refine gg (k:= ?_))
  (
 refine ae (eh 0 0 key key hk) Tryz.call19 0 [] [] [] ?_
 rw[decide_eq_true (rfl:key=key)]
 refine gg (k:= ?_)
 refine ae (fF val val.length rfl hv 3 0) Tryz.call19 1 [34] [0] [] ?_
 refine gg (k:= ?_)
 (refine ax (k:= ?_))
 conv=>whnf
 refine bh (fun y:Nat×List UInt8=>y.1≤val.length∧y.2.length=val.length) (fun y=>val.length - y.1) 5 [23,153,154,155,156,157,158,159,160,161] (fun y=>[(23,.val (.int .i64 (y.1:Int)))]) (fun y=>[(34,⟨3,.bytes y.2⟩)]) (0,val) ⟨Nat.zero_le _,rfl⟩ ?_ ?_ ?_
 ·exact no_implicit_lambda%ten
 ·exact no_implicit_lambda%az
 ·rintro⟨i,w⟩ u ⟨u1,u2⟩
  simp only at u1 u2
  refine bc (k:= ?_)
  refine gg (k:= ?_)
  refine⟨fun h=> ?_,fun h=> ?_⟩
  ·have ai:i<val.length:=by have:=of_decide_eq_true h;omega
   refine gg (k:= ?_)
   refine aM (i+1,w.set (0+(i:Int).toNat) (UInt8.ofNat (Int.toNat 85))) ⟨ai,by simp[u2]⟩ (by show val.length - (i+1)<val.length - i;omega) ?_ ?_
   ·exact no_implicit_lambda%ten
   ·exact no_implicit_lambda%az
  ·refine gg (k:= ?_)
   exact⟨_,rfl,rfl,trivial⟩)
 exact br h trivial (AF.al (af.cons (AF.agg (af.cons AF.nil (af.cons AF.cF (af.cons AF.same (af.cons AF.same (af.cons AF.same af.nil)))))) (af.cons AF.same (af.cons AF.same af.nil)))) ⟨rfl,BF.same,rfl,BF.same,rfl,BF.same,rfl,BF.same,rfl,BF.same,trivial⟩
theorem NW (s : J) (o : dg) (ho : fE o) (hK : o.K ≠ 0) (vs va vb v0 v1 : Nat) :
    Spec Tryz.prog 28 [.ref 3 v0 6 0 0,.val (.pointer none),.agg (aN 0 o)] [⟨vs,.dead⟩,⟨va,.dead⟩,⟨vb,.dead⟩,⟨v0,.obj [.own 4 v1 1 0 s.l.length,.val (.int .i64 (s.k:Int)),.val (.int .i64 s.ar),.val (.int .i64 s.pt),.val (.bool s.dd),.val (.int .i64 s.wr)]⟩,⟨v1,.bytes s.l⟩] (ak (.al [.agg [.bs 0 (dy s o).1.b,.sl 0 1 (fun k:List UInt8=>[AV.bs 0 k]) [] (dy s o).1.l,.val (.int .i64 (dy s o).1.n),.val (.bool (dy s o).1.is),.val (.int .i64 (dy s o).1.e)],.val (.pointer none),.val (.bool true)]) [⟨vs,.dead⟩,⟨va,.dead⟩,⟨vb,.dead⟩,⟨v0,.obj [.own 4 v1 1 0 (dy s o).2.l.length,.val (.int .i64 ((dy s o).2.k:Int)),.val (.int .i64 (dy s o).2.ar),.val (.int .i64 (dy s o).2.pt),.val (.bool (dy s o).2.dd),.val (.int .i64 (dy s o).2.wr)]⟩,⟨v1,.bytes (dy s o).2.l⟩] []):=by
 obtain⟨K,m,q,key,val⟩:=o
 have hk:=ho.key
 have hv:=ho.val
 have hn:=ho.n
 have hp:=ho.p
 simp only at hk hv hn hp hK
 unfold dy
 simp only
 by_cases h6:K=6
 ·rw[if_pos h6]
  have hx:=lT (D4 s m q hn hp v0 v1)
  have h:Spec Tryz.prog 28 [.ref 3 v0 6 0 0,.val (.pointer none),.agg (aN 0 ⟨K,m,q,key,val⟩)] [⟨vs,.dead⟩,⟨va,.dead⟩,⟨vb,.dead⟩,⟨v0,.obj [.own 4 v1 1 0 s.l.length,.val (.int .i64 (s.k:Int)),.val (.int .i64 s.ar),.val (.int .i64 s.pt),.val (.bool s.dd),.val (.int .i64 s.wr)]⟩,⟨v1,.bytes s.l⟩] (ak (.al [.agg [.val (.slice none 0 0),.val (.slice none 0 0),.val (.int .i64 0),.val (.bool false),.val (.int .i64 (s.arm m q).1)],.val (.pointer none),.val (.bool true)]) [⟨vs,.dead⟩,⟨va,.dead⟩,⟨vb,.dead⟩,⟨v0,.obj [.own 4 v1 1 0 (s.arm m q).2.l.length,.val (.int .i64 ((s.arm m q).2.k:Int)),.val (.int .i64 (s.arm m q).2.ar),.val (.int .i64 (s.arm m q).2.pt),.val (.bool (s.arm m q).2.dd),.val (.int .i64 (s.arm m q).2.wr)]⟩,⟨v1,.bytes (s.arm m q).2.l⟩] []):=by
   subst h6
   generalize s.arm m q=T at hx⊢
   (
 refine aq aj Tryz.func28 rfl Tryz.ntmps28 Tryz.results28 ?_
 unfold aN
 simp only
 refine gg (k:= ?_)
 refine ae (fc 0 key hk) Tryz.call23 0 [] [] [] ?_
 refine gg (k:= ?_)
 refine ae (ek 0 val hv) Tryz.call23 0 [0,0,0,34] [0,0,0,1] [3] ?_
 refine gg (k := ?_))
   refine ae (hx) Tryz.call30 2 [3,4] [0,0] [] ?_
   refine gg (k:= ?_)
   (
 refine ae (eh 0 0 key key hk) Tryz.call19 0 [] [] [] ?_
 rw[decide_eq_true (rfl:key=key)]
 refine gg (k:= ?_)
 refine ae (fF val val.length rfl hv 3 0) Tryz.call19 1 [34] [0] [] ?_
 refine gg (k:= ?_)
 (refine ax (k:= ?_))
 conv=>whnf
 refine bh (fun y:Nat×List UInt8=>y.1≤val.length∧y.2.length=val.length) (fun y=>val.length - y.1) 5 [23,153,154,155,156,157,158,159,160,161] (fun y=>[(23,.val (.int .i64 (y.1:Int)))]) (fun y=>[(34,⟨3,.bytes y.2⟩)]) (0,val) ⟨Nat.zero_le _,rfl⟩ ?_ ?_ ?_
 ·exact no_implicit_lambda%ten
 ·exact no_implicit_lambda%az
 ·rintro⟨i,w⟩ u ⟨u1,u2⟩
  simp only at u1 u2
  refine bc (k:= ?_)
  refine gg (k:= ?_)
  refine⟨fun h=> ?_,fun h=> ?_⟩
  ·have ai:i<val.length:=by have:=of_decide_eq_true h;omega
   refine gg (k:= ?_)
   refine aM (i+1,w.set (0+(i:Int).toNat) (UInt8.ofNat (Int.toNat 85))) ⟨ai,by simp[u2]⟩ (by show val.length - (i+1)<val.length - i;omega) ?_ ?_
   ·exact no_implicit_lambda%ten
   ·exact no_implicit_lambda%az
  ·refine gg (k:= ?_)
   exact⟨_,rfl,rfl,trivial⟩)
  exact br h trivial (AF.al (af.cons (AF.agg (af.cons AF.nil (af.cons AF.cF (af.cons AF.same (af.cons AF.same (af.cons AF.same af.nil)))))) (af.cons AF.same (af.cons AF.same af.nil)))) ⟨rfl,BF.same,rfl,BF.same,rfl,BF.same,rfl,BF.same,rfl,BF.same,trivial⟩
 rw[if_neg h6]
 by_cases h7:K=7
 ·rw[if_pos h7]
  have hx:=lT (D5 s v0 v1)
  have h:Spec Tryz.prog 28 [.ref 3 v0 6 0 0,.val (.pointer none),.agg (aN 0 ⟨K,m,q,key,val⟩)] [⟨vs,.dead⟩,⟨va,.dead⟩,⟨vb,.dead⟩,⟨v0,.obj [.own 4 v1 1 0 s.l.length,.val (.int .i64 (s.k:Int)),.val (.int .i64 s.ar),.val (.int .i64 s.pt),.val (.bool s.dd),.val (.int .i64 s.wr)]⟩,⟨v1,.bytes s.l⟩] (ak (.al [.agg [.val (.slice none 0 0),.val (.slice none 0 0),.val (.int .i64 0),.val (.bool false),.val (.int .i64 s.on.1)],.val (.pointer none),.val (.bool true)]) [⟨vs,.dead⟩,⟨va,.dead⟩,⟨vb,.dead⟩,⟨v0,.obj [.own 4 v1 1 0 s.on.2.l.length,.val (.int .i64 (s.on.2.k:Int)),.val (.int .i64 s.on.2.ar),.val (.int .i64 s.on.2.pt),.val (.bool s.on.2.dd),.val (.int .i64 s.on.2.wr)]⟩,⟨v1,.bytes s.on.2.l⟩] []):=by
   subst h7
   generalize s.on=T at hx⊢
   (
 refine aq aj Tryz.func28 rfl Tryz.ntmps28 Tryz.results28 ?_
 unfold aN
 simp only
 refine gg (k:= ?_)
 refine ae (fc 0 key hk) Tryz.call23 0 [] [] [] ?_
 refine gg (k:= ?_)
 refine ae (ek 0 val hv) Tryz.call23 0 [0,0,0,34] [0,0,0,1] [3] ?_
 refine gg (k := ?_))
   refine ae (hx) Tryz.call32 2 [3,4] [0,0] [] ?_
   refine gg (k:= ?_)
   (
 refine ae (eh 0 0 key key hk) Tryz.call19 0 [] [] [] ?_
 rw[decide_eq_true (rfl:key=key)]
 refine gg (k:= ?_)
 refine ae (fF val val.length rfl hv 3 0) Tryz.call19 1 [34] [0] [] ?_
 refine gg (k:= ?_)
 (refine ax (k:= ?_))
 conv=>whnf
 refine bh (fun y:Nat×List UInt8=>y.1≤val.length∧y.2.length=val.length) (fun y=>val.length - y.1) 5 [23,153,154,155,156,157,158,159,160,161] (fun y=>[(23,.val (.int .i64 (y.1:Int)))]) (fun y=>[(34,⟨3,.bytes y.2⟩)]) (0,val) ⟨Nat.zero_le _,rfl⟩ ?_ ?_ ?_
 ·exact no_implicit_lambda%ten
 ·exact no_implicit_lambda%az
 ·rintro⟨i,w⟩ u ⟨u1,u2⟩
  simp only at u1 u2
  refine bc (k:= ?_)
  refine gg (k:= ?_)
  refine⟨fun h=> ?_,fun h=> ?_⟩
  ·have ai:i<val.length:=by have:=of_decide_eq_true h;omega
   refine gg (k:= ?_)
   refine aM (i+1,w.set (0+(i:Int).toNat) (UInt8.ofNat (Int.toNat 85))) ⟨ai,by simp[u2]⟩ (by show val.length - (i+1)<val.length - i;omega) ?_ ?_
   ·exact no_implicit_lambda%ten
   ·exact no_implicit_lambda%az
  ·refine gg (k:= ?_)
   exact⟨_,rfl,rfl,trivial⟩)
  exact br h trivial (AF.al (af.cons (AF.agg (af.cons AF.nil (af.cons AF.cF (af.cons AF.same (af.cons AF.same (af.cons AF.same af.nil)))))) (af.cons AF.same (af.cons AF.same af.nil)))) ⟨rfl,BF.same,rfl,BF.same,rfl,BF.same,rfl,BF.same,rfl,BF.same,trivial⟩
 rw[if_neg h7]
 by_cases h1:K=1
 ·have h:Spec Tryz.prog 28 [.ref 3 v0 6 0 0,.val (.pointer none),.agg (aN 0 ⟨K,m,q,key,val⟩)] [⟨vs,.dead⟩,⟨va,.dead⟩,⟨vb,.dead⟩,⟨v0,.obj [.own 4 v1 1 0 s.l.length,.val (.int .i64 (s.k:Int)),.val (.int .i64 s.ar),.val (.int .i64 s.pt),.val (.bool s.dd),.val (.int .i64 s.wr)]⟩,⟨v1,.bytes s.l⟩] (ak (.al [.agg [.bs 0 [],.val (.slice none 0 0),.val (.int .i64 0),.val (.bool false),.val (.int .i64 2)],.val (.pointer none),.val (.bool true)]) [⟨vs,.dead⟩,⟨va,.dead⟩,⟨vb,.dead⟩,⟨v0,.obj [.own 4 v1 1 0 s.l.length,.val (.int .i64 (s.k:Int)),.val (.int .i64 s.ar),.val (.int .i64 s.pt),.val (.bool s.dd),.val (.int .i64 s.wr)]⟩,⟨v1,.bytes s.l⟩] []):=by
    subst h1
    (
 refine aq aj Tryz.func28 rfl Tryz.ntmps28 Tryz.results28 ?_
 unfold aN
 simp only
 refine gg (k:= ?_)
 refine ae (fc 0 key hk) Tryz.call23 0 [] [] [] ?_
 refine gg (k:= ?_)
 refine ae (ek 0 val hv) Tryz.call23 0 [0,0,0,34] [0,0,0,1] [3] ?_
 refine gg (k := ?_))
    refine ae (Nz 0 key) Tryz.call64 0 [] [] [] ?_
    (
 refine gg (k:= ?_)
 refine ae (zP) Tryz.call23 0 [] [] [] ?_
 refine gg (k:= ?_)
 (refine ax (k:= ?_))
 conv=>whnf
 refine bh (fun i:Nat=>i=0) (fun i=>0) 5 [17,58,59,60,61,62,63,64,65,66] (fun i=>[(17,.val (.int .i64 0))]) (fun i=>[]) 0 rfl ?_ ?_ ?_
 ·exact no_implicit_lambda%ten
 ·exact no_implicit_lambda%az
 ·rintro i v i1
  refine bc (k:= ?_)
  refine gg (k:= ?_)
  (
 refine ae (eh 0 0 key key hk) Tryz.call19 0 [] [] [] ?_
 rw[decide_eq_true (rfl:key=key)]
 refine gg (k:= ?_)
 refine ae (fF val val.length rfl hv 3 0) Tryz.call19 1 [34] [0] [] ?_
 refine gg (k:= ?_)
 (refine ax (k:= ?_))
 conv=>whnf
 refine bh (fun y:Nat×List UInt8=>y.1≤val.length∧y.2.length=val.length) (fun y=>val.length - y.1) 5 [23,153,154,155,156,157,158,159,160,161] (fun y=>[(23,.val (.int .i64 (y.1:Int)))]) (fun y=>[(34,⟨3,.bytes y.2⟩)]) (0,val) ⟨Nat.zero_le _,rfl⟩ ?_ ?_ ?_
 ·exact no_implicit_lambda%ten
 ·exact no_implicit_lambda%az
 ·rintro⟨i,w⟩ u ⟨u1,u2⟩
  simp only at u1 u2
  refine bc (k:= ?_)
  refine gg (k:= ?_)
  refine⟨fun h=> ?_,fun h=> ?_⟩
  ·have ai:i<val.length:=by have:=of_decide_eq_true h;omega
   refine gg (k:= ?_)
   refine aM (i+1,w.set (0+(i:Int).toNat) (UInt8.ofNat (Int.toNat 85))) ⟨ai,by simp[u2]⟩ (by show val.length - (i+1)<val.length - i;omega) ?_ ?_
   ·exact no_implicit_lambda%ten
   ·exact no_implicit_lambda%az
  ·refine gg (k:= ?_)
   exact⟨_,rfl,rfl,trivial⟩))
  rw[if_pos (by omega)]
  exact br h trivial (AF.al (af.cons (AF.agg (af.cons AF.same (af.cons AF.cF (af.cons AF.same (af.cons AF.same (af.cons AF.same af.nil)))))) (af.cons AF.same (af.cons AF.same af.nil)))) ⟨rfl,BF.same,rfl,BF.same,rfl,BF.same,rfl,BF.same,rfl,BF.same,trivial⟩
 by_cases h2:K=2
 ·have h:Spec Tryz.prog 28 [.ref 3 v0 6 0 0,.val (.pointer none),.agg (aN 0 ⟨K,m,q,key,val⟩)] [⟨vs,.dead⟩,⟨va,.dead⟩,⟨vb,.dead⟩,⟨v0,.obj [.own 4 v1 1 0 s.l.length,.val (.int .i64 (s.k:Int)),.val (.int .i64 s.ar),.val (.int .i64 s.pt),.val (.bool s.dd),.val (.int .i64 s.wr)]⟩,⟨v1,.bytes s.l⟩] (ak (.al [.agg [.val (.slice none 0 0),.val (.slice none 0 0),.val (.int .i64 0),.val (.bool false),.val (.int .i64 2)],.val (.pointer none),.val (.bool true)]) [⟨vs,.dead⟩,⟨va,.dead⟩,⟨vb,.dead⟩,⟨v0,.obj [.own 4 v1 1 0 s.l.length,.val (.int .i64 (s.k:Int)),.val (.int .i64 s.ar),.val (.int .i64 s.pt),.val (.bool s.dd),.val (.int .i64 s.wr)]⟩,⟨v1,.bytes s.l⟩] []):=by
    subst h2
    (
 refine aq aj Tryz.func28 rfl Tryz.ntmps28 Tryz.results28 ?_
 unfold aN
 simp only
 refine gg (k:= ?_)
 refine ae (fc 0 key hk) Tryz.call23 0 [] [] [] ?_
 refine gg (k:= ?_)
 refine ae (ek 0 val hv) Tryz.call23 0 [0,0,0,34] [0,0,0,1] [3] ?_
 refine gg (k := ?_))
    refine ae (NU 0 key val val.length rfl 3) Tryz.call22 1 [34] [0] [] ?_
    refine gg (k:= ?_)
    (
 refine ae (eh 0 0 key key hk) Tryz.call19 0 [] [] [] ?_
 rw[decide_eq_true (rfl:key=key)]
 refine gg (k:= ?_)
 refine ae (fF val val.length rfl hv 3 0) Tryz.call19 1 [34] [0] [] ?_
 refine gg (k:= ?_)
 (refine ax (k:= ?_))
 conv=>whnf
 refine bh (fun y:Nat×List UInt8=>y.1≤val.length∧y.2.length=val.length) (fun y=>val.length - y.1) 5 [23,153,154,155,156,157,158,159,160,161] (fun y=>[(23,.val (.int .i64 (y.1:Int)))]) (fun y=>[(34,⟨3,.bytes y.2⟩)]) (0,val) ⟨Nat.zero_le _,rfl⟩ ?_ ?_ ?_
 ·exact no_implicit_lambda%ten
 ·exact no_implicit_lambda%az
 ·rintro⟨i,w⟩ u ⟨u1,u2⟩
  simp only at u1 u2
  refine bc (k:= ?_)
  refine gg (k:= ?_)
  refine⟨fun h=> ?_,fun h=> ?_⟩
  ·have ai:i<val.length:=by have:=of_decide_eq_true h;omega
   refine gg (k:= ?_)
   refine aM (i+1,w.set (0+(i:Int).toNat) (UInt8.ofNat (Int.toNat 85))) ⟨ai,by simp[u2]⟩ (by show val.length - (i+1)<val.length - i;omega) ?_ ?_
   ·exact no_implicit_lambda%ten
   ·exact no_implicit_lambda%az
  ·refine gg (k:= ?_)
   exact⟨_,rfl,rfl,trivial⟩)
  rw[if_pos (by omega)]
  exact br h trivial (AF.al (af.cons (AF.agg (af.cons AF.nil (af.cons AF.cF (af.cons AF.same (af.cons AF.same (af.cons AF.same af.nil)))))) (af.cons AF.same (af.cons AF.same af.nil)))) ⟨rfl,BF.same,rfl,BF.same,rfl,BF.same,rfl,BF.same,rfl,BF.same,trivial⟩
 by_cases h3:K=3
 ·have h:Spec Tryz.prog 28 [.ref 3 v0 6 0 0,.val (.pointer none),.agg (aN 0 ⟨K,m,q,key,val⟩)] [⟨vs,.dead⟩,⟨va,.dead⟩,⟨vb,.dead⟩,⟨v0,.obj [.own 4 v1 1 0 s.l.length,.val (.int .i64 (s.k:Int)),.val (.int .i64 s.ar),.val (.int .i64 s.pt),.val (.bool s.dd),.val (.int .i64 s.wr)]⟩,⟨v1,.bytes s.l⟩] (ak (.al [.agg [.val (.slice none 0 0),.val (.slice none 0 0),.val (.int .i64 0),.val (.bool false),.val (.int .i64 2)],.val (.pointer none),.val (.bool true)]) [⟨vs,.dead⟩,⟨va,.dead⟩,⟨vb,.dead⟩,⟨v0,.obj [.own 4 v1 1 0 s.l.length,.val (.int .i64 (s.k:Int)),.val (.int .i64 s.ar),.val (.int .i64 s.pt),.val (.bool s.dd),.val (.int .i64 s.wr)]⟩,⟨v1,.bytes s.l⟩] []):=by
    subst h3
    (
 refine aq aj Tryz.func28 rfl Tryz.ntmps28 Tryz.results28 ?_
 unfold aN
 simp only
 refine gg (k:= ?_)
 refine ae (fc 0 key hk) Tryz.call23 0 [] [] [] ?_
 refine gg (k:= ?_)
 refine ae (ek 0 val hv) Tryz.call23 0 [0,0,0,34] [0,0,0,1] [3] ?_
 refine gg (k := ?_))
    refine ae (NA 0 key) Tryz.call25 0 [] [] [] ?_
    refine gg (k:= ?_)
    (
 refine ae (eh 0 0 key key hk) Tryz.call19 0 [] [] [] ?_
 rw[decide_eq_true (rfl:key=key)]
 refine gg (k:= ?_)
 refine ae (fF val val.length rfl hv 3 0) Tryz.call19 1 [34] [0] [] ?_
 refine gg (k:= ?_)
 (refine ax (k:= ?_))
 conv=>whnf
 refine bh (fun y:Nat×List UInt8=>y.1≤val.length∧y.2.length=val.length) (fun y=>val.length - y.1) 5 [23,153,154,155,156,157,158,159,160,161] (fun y=>[(23,.val (.int .i64 (y.1:Int)))]) (fun y=>[(34,⟨3,.bytes y.2⟩)]) (0,val) ⟨Nat.zero_le _,rfl⟩ ?_ ?_ ?_
 ·exact no_implicit_lambda%ten
 ·exact no_implicit_lambda%az
 ·rintro⟨i,w⟩ u ⟨u1,u2⟩
  simp only at u1 u2
  refine bc (k:= ?_)
  refine gg (k:= ?_)
  refine⟨fun h=> ?_,fun h=> ?_⟩
  ·have ai:i<val.length:=by have:=of_decide_eq_true h;omega
   refine gg (k:= ?_)
   refine aM (i+1,w.set (0+(i:Int).toNat) (UInt8.ofNat (Int.toNat 85))) ⟨ai,by simp[u2]⟩ (by show val.length - (i+1)<val.length - i;omega) ?_ ?_
   ·exact no_implicit_lambda%ten
   ·exact no_implicit_lambda%az
  ·refine gg (k:= ?_)
   exact⟨_,rfl,rfl,trivial⟩)
  rw[if_pos (by omega)]
  exact br h trivial (AF.al (af.cons (AF.agg (af.cons AF.nil (af.cons AF.cF (af.cons AF.same (af.cons AF.same (af.cons AF.same af.nil)))))) (af.cons AF.same (af.cons AF.same af.nil)))) ⟨rfl,BF.same,rfl,BF.same,rfl,BF.same,rfl,BF.same,rfl,BF.same,trivial⟩
 by_cases h4:K=4
 ·have h:Spec Tryz.prog 28 [.ref 3 v0 6 0 0,.val (.pointer none),.agg (aN 0 ⟨K,m,q,key,val⟩)] [⟨vs,.dead⟩,⟨va,.dead⟩,⟨vb,.dead⟩,⟨v0,.obj [.own 4 v1 1 0 s.l.length,.val (.int .i64 (s.k:Int)),.val (.int .i64 s.ar),.val (.int .i64 s.pt),.val (.bool s.dd),.val (.int .i64 s.wr)]⟩,⟨v1,.bytes s.l⟩] (ak (.al [.agg [.val (.slice none 0 0),.val (.slice none 0 0),.val (.int .i64 0),.val (.bool false),.val (.int .i64 2)],.val (.pointer none),.val (.bool true)]) [⟨vs,.dead⟩,⟨va,.dead⟩,⟨vb,.dead⟩,⟨v0,.obj [.own 4 v1 1 0 s.l.length,.val (.int .i64 (s.k:Int)),.val (.int .i64 s.ar),.val (.int .i64 s.pt),.val (.bool s.dd),.val (.int .i64 s.wr)]⟩,⟨v1,.bytes s.l⟩] []):=by
    subst h4
    (
 refine aq aj Tryz.func28 rfl Tryz.ntmps28 Tryz.results28 ?_
 unfold aN
 simp only
 refine gg (k:= ?_)
 refine ae (fc 0 key hk) Tryz.call23 0 [] [] [] ?_
 refine gg (k:= ?_)
 refine ae (ek 0 val hv) Tryz.call23 0 [0,0,0,34] [0,0,0,1] [3] ?_
 refine gg (k := ?_))
    refine ae (keys_nil) Tryz.call72 0 [] [] [] ?_
    (
 refine gg (k:= ?_)
 (refine ax (k:= ?_))
 conv=>whnf
 refine bh (fun i:Nat=>i=0) (fun i=>0) 5 [20,21,89,90,91,92,93,94,95,96,97,98,99,100,101,102,103,104,105,106,107,108,109,110,111,112,113,114,115,116,117,118,119] (fun i=>[(20,.val (.int .i64 0))]) (fun i=>[]) 0 rfl ?_ ?_ ?_
 ·exact no_implicit_lambda%ten
 ·exact no_implicit_lambda%az
 ·rintro i v i1
  refine bc (k:= ?_)
  refine gg (k:= ?_)
  (
 refine ae (eh 0 0 key key hk) Tryz.call19 0 [] [] [] ?_
 rw[decide_eq_true (rfl:key=key)]
 refine gg (k:= ?_)
 refine ae (fF val val.length rfl hv 3 0) Tryz.call19 1 [34] [0] [] ?_
 refine gg (k:= ?_)
 (refine ax (k:= ?_))
 conv=>whnf
 refine bh (fun y:Nat×List UInt8=>y.1≤val.length∧y.2.length=val.length) (fun y=>val.length - y.1) 5 [23,153,154,155,156,157,158,159,160,161] (fun y=>[(23,.val (.int .i64 (y.1:Int)))]) (fun y=>[(34,⟨3,.bytes y.2⟩)]) (0,val) ⟨Nat.zero_le _,rfl⟩ ?_ ?_ ?_
 ·exact no_implicit_lambda%ten
 ·exact no_implicit_lambda%az
 ·rintro⟨i,w⟩ u ⟨u1,u2⟩
  simp only at u1 u2
  refine bc (k:= ?_)
  refine gg (k:= ?_)
  refine⟨fun h=> ?_,fun h=> ?_⟩
  ·have ai:i<val.length:=by have:=of_decide_eq_true h;omega
   refine gg (k:= ?_)
   refine aM (i+1,w.set (0+(i:Int).toNat) (UInt8.ofNat (Int.toNat 85))) ⟨ai,by simp[u2]⟩ (by show val.length - (i+1)<val.length - i;omega) ?_ ?_
   ·exact no_implicit_lambda%ten
   ·exact no_implicit_lambda%az
  ·refine gg (k:= ?_)
   exact⟨_,rfl,rfl,trivial⟩))
  rw[if_pos (by omega)]
  exact br h trivial (AF.al (af.cons (AF.agg (af.cons AF.nil (af.cons AF.cF (af.cons AF.same (af.cons AF.same (af.cons AF.same af.nil)))))) (af.cons AF.same (af.cons AF.same af.nil)))) ⟨rfl,BF.same,rfl,BF.same,rfl,BF.same,rfl,BF.same,rfl,BF.same,trivial⟩
 by_cases h5:K=5
 ·have h:Spec Tryz.prog 28 [.ref 3 v0 6 0 0,.val (.pointer none),.agg (aN 0 ⟨K,m,q,key,val⟩)] [⟨vs,.dead⟩,⟨va,.dead⟩,⟨vb,.dead⟩,⟨v0,.obj [.own 4 v1 1 0 s.l.length,.val (.int .i64 (s.k:Int)),.val (.int .i64 s.ar),.val (.int .i64 s.pt),.val (.bool s.dd),.val (.int .i64 s.wr)]⟩,⟨v1,.bytes s.l⟩] (ak (.al [.agg [.val (.slice none 0 0),.val (.slice none 0 0),.val (.int .i64 0),.val (.bool false),.val (.int .i64 2)],.val (.pointer none),.val (.bool true)]) [⟨vs,.dead⟩,⟨va,.dead⟩,⟨vb,.dead⟩,⟨v0,.obj [.own 4 v1 1 0 s.l.length,.val (.int .i64 (s.k:Int)),.val (.int .i64 s.ar),.val (.int .i64 s.pt),.val (.bool s.dd),.val (.int .i64 s.wr)]⟩,⟨v1,.bytes s.l⟩] []):=by
    subst h5
    (
 refine aq aj Tryz.func28 rfl Tryz.ntmps28 Tryz.results28 ?_
 unfold aN
 simp only
 refine gg (k:= ?_)
 refine ae (fc 0 key hk) Tryz.call23 0 [] [] [] ?_
 refine gg (k:= ?_)
 refine ae (ek 0 val hv) Tryz.call23 0 [0,0,0,34] [0,0,0,1] [3] ?_
 refine gg (k := ?_))
    refine ae (NB) Tryz.call74 0 [] [] [] ?_
    refine gg (k:= ?_)
    (
 refine ae (eh 0 0 key key hk) Tryz.call19 0 [] [] [] ?_
 rw[decide_eq_true (rfl:key=key)]
 refine gg (k:= ?_)
 refine ae (fF val val.length rfl hv 3 0) Tryz.call19 1 [34] [0] [] ?_
 refine gg (k:= ?_)
 (refine ax (k:= ?_))
 conv=>whnf
 refine bh (fun y:Nat×List UInt8=>y.1≤val.length∧y.2.length=val.length) (fun y=>val.length - y.1) 5 [23,153,154,155,156,157,158,159,160,161] (fun y=>[(23,.val (.int .i64 (y.1:Int)))]) (fun y=>[(34,⟨3,.bytes y.2⟩)]) (0,val) ⟨Nat.zero_le _,rfl⟩ ?_ ?_ ?_
 ·exact no_implicit_lambda%ten
 ·exact no_implicit_lambda%az
 ·rintro⟨i,w⟩ u ⟨u1,u2⟩
  simp only at u1 u2
  refine bc (k:= ?_)
  refine gg (k:= ?_)
  refine⟨fun h=> ?_,fun h=> ?_⟩
  ·have ai:i<val.length:=by have:=of_decide_eq_true h;omega
   refine gg (k:= ?_)
   refine aM (i+1,w.set (0+(i:Int).toNat) (UInt8.ofNat (Int.toNat 85))) ⟨ai,by simp[u2]⟩ (by show val.length - (i+1)<val.length - i;omega) ?_ ?_
   ·exact no_implicit_lambda%ten
   ·exact no_implicit_lambda%az
  ·refine gg (k:= ?_)
   exact⟨_,rfl,rfl,trivial⟩)
  rw[if_pos (by omega)]
  exact br h trivial (AF.al (af.cons (AF.agg (af.cons AF.nil (af.cons AF.cF (af.cons AF.same (af.cons AF.same (af.cons AF.same af.nil)))))) (af.cons AF.same (af.cons AF.same af.nil)))) ⟨rfl,BF.same,rfl,BF.same,rfl,BF.same,rfl,BF.same,rfl,BF.same,trivial⟩
 rw[if_neg (by omega)]
 have h:Spec Tryz.prog 28 [.ref 3 v0 6 0 0,.val (.pointer none),.agg (aN 0 ⟨K,m,q,key,val⟩)] [⟨vs,.dead⟩,⟨va,.dead⟩,⟨vb,.dead⟩,⟨v0,.obj [.own 4 v1 1 0 s.l.length,.val (.int .i64 (s.k:Int)),.val (.int .i64 s.ar),.val (.int .i64 s.pt),.val (.bool s.dd),.val (.int .i64 s.wr)]⟩,⟨v1,.bytes s.l⟩] (ak (.al [.agg [.val (.slice none 0 0),.val (.slice none 0 0),.val (.int .i64 0),.val (.bool false),.val (.int .i64 0)],.val (.pointer none),.val (.bool true)]) [⟨vs,.dead⟩,⟨va,.dead⟩,⟨vb,.dead⟩,⟨v0,.obj [.own 4 v1 1 0 s.l.length,.val (.int .i64 (s.k:Int)),.val (.int .i64 s.ar),.val (.int .i64 s.pt),.val (.bool s.dd),.val (.int .i64 s.wr)]⟩,⟨v1,.bytes s.l⟩] []):=by
  (
 refine aq aj Tryz.func28 rfl Tryz.ntmps28 Tryz.results28 ?_
 unfold aN
 simp only
 refine gg (k:= ?_)
 refine ae (fc 0 key hk) Tryz.call23 0 [] [] [] ?_
 refine gg (k:= ?_)
 refine ae (ek 0 val hv) Tryz.call23 0 [0,0,0,34] [0,0,0,1] [3] ?_
 refine gg (k:= ?_))
  (
 refine ae (eh 0 0 key key hk) Tryz.call19 0 [] [] [] ?_
 rw[decide_eq_true (rfl:key=key)]
 refine gg (k:= ?_)
 refine ae (fF val val.length rfl hv 3 0) Tryz.call19 1 [34] [0] [] ?_
 refine gg (k:= ?_)
 (refine ax (k:= ?_))
 conv=>whnf
 refine bh (fun y:Nat×List UInt8=>y.1≤val.length∧y.2.length=val.length) (fun y=>val.length - y.1) 5 [23,153,154,155,156,157,158,159,160,161] (fun y=>[(23,.val (.int .i64 (y.1:Int)))]) (fun y=>[(34,⟨3,.bytes y.2⟩)]) (0,val) ⟨Nat.zero_le _,rfl⟩ ?_ ?_ ?_
 ·exact no_implicit_lambda%ten
 ·exact no_implicit_lambda%az
 ·rintro⟨i,w⟩ u ⟨u1,u2⟩
  simp only at u1 u2
  refine bc (k:= ?_)
  refine gg (k:= ?_)
  refine⟨fun h=> ?_,fun h=> ?_⟩
  ·have ai:i<val.length:=by have:=of_decide_eq_true h;omega
   refine gg (k:= ?_)
   refine aM (i+1,w.set (0+(i:Int).toNat) (UInt8.ofNat (Int.toNat 85))) ⟨ai,by simp[u2]⟩ (by show val.length - (i+1)<val.length - i;omega) ?_ ?_
   ·exact no_implicit_lambda%ten
   ·exact no_implicit_lambda%az
  ·refine gg (k:= ?_)
   exact⟨_,rfl,rfl,trivial⟩)
 exact br h trivial (AF.al (af.cons (AF.agg (af.cons AF.nil (af.cons AF.cF (af.cons AF.same (af.cons AF.same (af.cons AF.same af.nil)))))) (af.cons AF.same (af.cons AF.same af.nil)))) ⟨rfl,BF.same,rfl,BF.same,rfl,BF.same,rfl,BF.same,rfl,BF.same,trivial⟩
theorem tF (s s2 : J) (e : Int) (o : dg) (ho : fE o) (hK : o.K = 0) (v0 v1 : Nat) (hx : Spec Tryz.prog 17 [.ref 0 v0 6 0 0] [⟨v0, .obj [.own 1 v1 1 0 s.l.length, .val (.int .i64 (s.k : Int)), .val (.int .i64 s.ar), .val (.int .i64 s.pt), .val (.bool s.dd), .val (.int .i64 s.wr)]⟩, ⟨v1, .bytes s.l⟩] (ak (.al [.val (.pointer none), .val (.int .i64 e)]) [⟨v0, .obj [.own 1 v1 1 0 s2.l.length, .val (.int .i64 (s2.k : Int)), .val (.int .i64 s2.ar), .val (.int .i64 s2.pt), .val (.bool s2.dd), .val (.int .i64 s2.wr)]⟩, ⟨v1, .bytes s2.l⟩] [])) (S : AV) (B0 B1 B2 : Bd) (vs va vb : Nat) :
    Spec Tryz.prog 28 [.ref 3 v0 6 0 0,S,.agg (aN 0 o)] [⟨vs,B0⟩,⟨va,B1⟩,⟨vb,B2⟩,⟨v0,.obj [.own 4 v1 1 0 s.l.length,.val (.int .i64 (s.k:Int)),.val (.int .i64 s.ar),.val (.int .i64 s.pt),.val (.bool s.dd),.val (.int .i64 s.wr)]⟩,⟨v1,.bytes s.l⟩] (ak (.al [.agg [.bs 0 [],.sl 0 1 (fun k:List UInt8=>[AV.bs 0 k]) [] [],.val (.int .i64 0),.val (.bool false),.val (.int .i64 e)],.val (.pointer none),.val (.bool true)]) [⟨vs,B0⟩,⟨va,B1⟩,⟨vb,B2⟩,⟨v0,.obj [.own 4 v1 1 0 s2.l.length,.val (.int .i64 (s2.k:Int)),.val (.int .i64 s2.ar),.val (.int .i64 s2.pt),.val (.bool s2.dd),.val (.int .i64 s2.wr)]⟩,⟨v1,.bytes s2.l⟩] []):=by
 obtain⟨K,m,q,key,val⟩:=o
 have hk:=ho.key
 have hv:=ho.val
 simp only at hk hv hK
 subst hK
 have h:Spec Tryz.prog 28 [.ref 3 v0 6 0 0,S,.agg (aN 0 ⟨0,m,q,key,val⟩)] [⟨vs,B0⟩,⟨va,B1⟩,⟨vb,B2⟩,⟨v0,.obj [.own 4 v1 1 0 s.l.length,.val (.int .i64 (s.k:Int)),.val (.int .i64 s.ar),.val (.int .i64 s.pt),.val (.bool s.dd),.val (.int .i64 s.wr)]⟩,⟨v1,.bytes s.l⟩] (ak (.al [.agg [.val (.slice none 0 0),.val (.slice none 0 0),.val (.int .i64 0),.val (.bool false),.val (.int .i64 e)],.val (.pointer none),.val (.bool true)]) [⟨vs,B0⟩,⟨va,B1⟩,⟨vb,B2⟩,⟨v0,.obj [.own 4 v1 1 0 s2.l.length,.val (.int .i64 (s2.k:Int)),.val (.int .i64 s2.ar),.val (.int .i64 s2.pt),.val (.bool s2.dd),.val (.int .i64 s2.wr)]⟩,⟨v1,.bytes s2.l⟩] []):=by
  (
 refine aq aj Tryz.func28 rfl Tryz.ntmps28 Tryz.results28 ?_
 unfold aN
 simp only
 refine gg (k:= ?_)
 refine ae (fc 0 key hk) Tryz.call23 0 [] [] [] ?_
 refine gg (k:= ?_)
 refine ae (ek 0 val hv) Tryz.call23 0 [0,0,0,34] [0,0,0,1] [3] ?_
 refine gg (k:= ?_))
  refine ae (hx) Tryz.call17 2 [3,4] [0,0] [] ?_
  refine gg (k:= ?_)
  exact⟨_,rfl,rfl,trivial⟩
 exact br h trivial (AF.al (af.cons (AF.agg (af.cons AF.nil (af.cons AF.cF (af.cons AF.same (af.cons AF.same (af.cons AF.same af.nil)))))) (af.cons AF.same (af.cons AF.same af.nil)))) ⟨rfl,BF.same,rfl,BF.same,rfl,BF.same,rfl,BF.same,rfl,BF.same,trivial⟩
theorem F3 {W : Int} {n k : Nat} (s : J) (c : Nat) (g : av W n k s) (hW : W ≤ 100000000000000) (pa : aC n k 0 c) (pb : aC n k c c) (hn : n = 2 * c * k) (hd : s.dd = false) (h0 : (s.bg c).1 = 0) (o : dg) (ho : fE o) (hK : o.K = 0) (S : AV) (B0 B1 B2 : Bd) (vs va vb v0 v1 : Nat) :
    Spec Tryz.prog 28 [.ref 3 v0 6 0 0,S,.agg (aN 0 o)] [⟨vs,B0⟩,⟨va,B1⟩,⟨vb,B2⟩,⟨v0,.obj [.own 4 v1 1 0 s.l.length,.val (.int .i64 (s.k:Int)),.val (.int .i64 s.ar),.val (.int .i64 s.pt),.val (.bool s.dd),.val (.int .i64 s.wr)]⟩,⟨v1,.bytes s.l⟩] (ak (.al [.agg [.bs 0 [],.sl 0 1 (fun k:List UInt8=>[AV.bs 0 k]) [] [],.val (.int .i64 0),.val (.bool false),.val (.int .i64 0)],.ref 0 (1+(vs+1)) 3 0 0,.val (.bool true)]) [⟨(1+(vs+1)),.obj [.ref 3 v0 6 0 0,.ref 1 (2+(va+1)) 3 0 0,.ref 2 (2+(vb+1)) 3 0 0]⟩,⟨(2+(va+1)),.obj [.ref 3 v0 6 0 0,.val (.int .i64 ((0:Nat):Int)),.val (.int .i64 (c:Int))]⟩,⟨(2+(vb+1)),.obj [.ref 3 v0 6 0 0,.val (.int .i64 (c:Int)),.val (.int .i64 (c:Int))]⟩,⟨v0,.obj [.own 4 v1 1 0 (s.bg c).2.l.length,.val (.int .i64 ((s.bg c).2.k:Int)),.val (.int .i64 (s.bg c).2.ar),.val (.int .i64 (s.bg c).2.pt),.val (.bool (s.bg c).2.dd),.val (.int .i64 (s.bg c).2.wr)]⟩,⟨v1,.bytes (s.bg c).2.l⟩] []):=by
 obtain⟨K,m,q,key,val⟩:=o
 have hk:=ho.key
 have hv:=ho.val
 simp only at hk hv hK
 subst hK
 have hx:=jZ (v8 s c g (by omega) pa pb hn hd v0 v1) fun Y H r=>r.1 h0
 generalize s.bg c=T at hx⊢
 have h:Spec Tryz.prog 28 [.ref 3 v0 6 0 0,S,.agg (aN 0 ⟨0,m,q,key,val⟩)] [⟨vs,B0⟩,⟨va,B1⟩,⟨vb,B2⟩,⟨v0,.obj [.own 4 v1 1 0 s.l.length,.val (.int .i64 (s.k:Int)),.val (.int .i64 s.ar),.val (.int .i64 s.pt),.val (.bool s.dd),.val (.int .i64 s.wr)]⟩,⟨v1,.bytes s.l⟩] (ak (.al [.agg [.val (.slice none 0 0),.val (.slice none 0 0),.val (.int .i64 0),.val (.bool false),.val (.int .i64 0)],.ref 0 (1+(vs+1)) 3 0 0,.val (.bool true)]) [⟨(1+(vs+1)),.obj [.ref 3 v0 6 0 0,.ref 1 (2+(va+1)) 3 0 0,.ref 2 (2+(vb+1)) 3 0 0]⟩,⟨(2+(va+1)),.obj [.ref 3 v0 6 0 0,.val (.int .i64 ((0:Nat):Int)),.val (.int .i64 (c:Int))]⟩,⟨(2+(vb+1)),.obj [.ref 3 v0 6 0 0,.val (.int .i64 (c:Int)),.val (.int .i64 (c:Int))]⟩,⟨v0,.obj [.own 4 v1 1 0 T.2.l.length,.val (.int .i64 (T.2.k:Int)),.val (.int .i64 T.2.ar),.val (.int .i64 T.2.pt),.val (.bool T.2.dd),.val (.int .i64 T.2.wr)]⟩,⟨v1,.bytes T.2.l⟩] []):=by
  (
 refine aq aj Tryz.func28 rfl Tryz.ntmps28 Tryz.results28 ?_
 unfold aN
 simp only
 refine gg (k:= ?_)
 refine ae (fc 0 key hk) Tryz.call23 0 [] [] [] ?_
 refine gg (k:= ?_)
 refine ae (ek 0 val hv) Tryz.call23 0 [0,0,0,34] [0,0,0,1] [3] ?_
 refine gg (k:= ?_))
  refine ae (hx) Tryz.call17 (had:=⟨⟨_,rfl,Nat.lt_succ_self vs⟩,⟨_,rfl,Nat.lt_succ_self va⟩,⟨_,rfl,Nat.lt_succ_self vb⟩,trivial⟩) (hz:=fun r hr=>by match r,hr with | 0,_=>rfl | 1,_=>rfl) 2 [3,4,0,0,0,0,0,0,0,0,0,0,0,0,0,0,0,0,0,0,0,0,0,0,0,0,0,0,0,0,0,0,0,0,0,0,0,0,0,0,0,0,0,0,0,0,0,0,0,0,0,0,0,0,0,0,0,0,0,0,0,0,0,0,0,0,0,0,0,0,0,0,0,0,0,0,0,0,0,0,1,2] [0,0,0,0,0,0,0,0,0,0,0,0,0,0,0,0,0,0,0,0,0,0,0,0,0,0,0,0,0,0,0,0,0,0,0,0,0,0,0,(vs+1),0,0,0,0,0,0,0,0,0,0,0,0,0,0,0,0,0,0,0,0,0,0,0,0,0,0,0,0,0,0,0,0,0,0,0,0,0,0,0,0,(va+1),(vb+1)] [39,80,81] ?_
  refine gg (k:= ?_)
  exact⟨_,rfl,rfl,trivial⟩
 exact br h trivial (AF.al (af.cons (AF.agg (af.cons AF.nil (af.cons AF.cF (af.cons AF.same (af.cons AF.same (af.cons AF.same af.nil)))))) (af.cons AF.same (af.cons AF.same af.nil)))) ⟨rfl,BF.same,rfl,BF.same,rfl,BF.same,rfl,BF.same,rfl,BF.same,trivial⟩
end Go.Proofs.YtpbpiehcchannaaGreatDoor
