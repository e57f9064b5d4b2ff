/- Walks of lintellaw09: meant. Conditions: none. -/
import Derived.Test.YtpbpiehcchannaaGreatDoorJRak
import Derived.Test.YtpbpiehcchannaaGreatDoorJRaj
import Derived.Test.YtpbpiehcchannaaGreatDoorJHq
namespace Go.Proofs.YtpbpiehcchannaaGreatDoor
open Go.RowKit
set_option linter.unusedVariables false
set_option linter.unusedSimpArgs false
set_option maxRecDepth 100000
set_option maxHeartbeats 3000000
structure Td where
 b:List UInt8
 l:List (List UInt8)
 n:Int
 is:Bool
 e:Int
def dx(s:J)(c:Nat)(o:dg):Td×J:=
 if o.K=1 then(⟨(s.kd c o.key).1,[],0,(s.kd c o.key).2.1,(s.kd c o.key).2.2⟩,s)
 else if o.K=2 then(⟨[],[],0,false,(s.set c o.key o.val).1⟩,(s.set c o.key o.val).2)
 else if o.K=3 then(⟨[],[],0,false,(s.del c o.key).1⟩,(s.del c o.key).2)
 else if o.K=4 then(⟨[],(s.me c).1,0,false,(s.me c).2⟩,s)
 else if o.K=5 then(⟨[],[],(s.nf c).1,false,(s.nf c).2⟩,s)
 else if o.K=6 then(⟨[],[],0,false,(s.arm o.n o.p).1⟩,(s.arm o.n o.p).2)
 else if o.K=7 then(⟨[],[],0,false,s.on.1⟩,s.on.2)
 else(⟨[],[],0,false,0⟩,s)
def dy(s:J)(o:dg):Td×J:=
 if o.K=6 then(⟨[],[],0,false,(s.arm o.n o.p).1⟩,(s.arm o.n o.p).2)
 else if o.K=7 then(⟨[],[],0,false,s.on.1⟩,s.on.2)
 else(⟨[],[],0,false,if 1≤o.K∧o.K≤5 then 2 else 0⟩,s)
theorem Oo {W : Int} {n k X : Nat} (s : J) (c : Nat) (g : av W n k s) (hW : W ≤ 100000000000000) (hX : s.l.length = X * s.k) (pa : aC n k 0 c) (pb : aC n k c c) (z z' : Nat) (key val : List UInt8) (cE : key.length ≤ 140737488355328) (dp : val.length ≤ 140737488355328) (vs va vb v0 v1 : Nat) : Spec Tryz.prog 89 [.ref 0 vs 3 0 0, .bs z key, .bs z' val] [⟨vs, .obj [.ref 3 v0 7 0 0, .ref 1 va 3 0 0, .ref 2 vb 3 0 0]⟩, ⟨va, .obj [.ref 3 v0 7 0 0, .val (.int .i64 ((0 : Nat) : Int)), .val (.int .i64 (c : Int))]⟩, ⟨vb, .obj [.ref 3 v0 7 0 0, .val (.int .i64 (c : Int)), .val (.int .i64 (c : Int))]⟩, ⟨v0, .obj [.own 4 v1 1 0 s.l.length, .val (.int .i64 (X : Int)), .val (.int .i64 (s.k : Int)), .val (.int .i64 s.ar), .val (.int .i64 s.pt), .val (.bool s.dd), .val (.int .i64 s.wr)]⟩, ⟨v1, .bytes s.l⟩]
   (ak (.val (.int .i64 (s.set c key val).1)) [⟨vs,.obj [.ref 3 v0 7 0 0,.ref 1 va 3 0 0,.ref 2 vb 3 0 0]⟩,⟨va,.obj [.ref 3 v0 7 0 0,.val (.int .i64 ((0:Nat):Int)),.val (.int .i64 (c:Int))]⟩,⟨vb,.obj [.ref 3 v0 7 0 0,.val (.int .i64 (c:Int)),.val (.int .i64 (c:Int))]⟩,⟨v0,.obj [.own 4 v1 1 0 (s.set c key val).2.l.length,.val (.int .i64 (X:Int)),.val (.int .i64 ((s.set c key val).2.k:Int)),.val (.int .i64 (s.set c key val).2.ar),.val (.int .i64 (s.set c key val).2.pt),.val (.bool (s.set c key val).2.dd),.val (.int .i64 (s.set c key val).2.wr)]⟩,⟨v1,.bytes (s.set c key val).2.l⟩] []):=by
 by_cases hd:s.dd=true
 ·refine aq aj Tryz.func89 rfl Tryz.ntmps89 Tryz.results89 ?_
  by_cases fg:key.length<1∨255<key.length∨65536<val.length
  ·rw[show s.set c key val=(1,s) from if_pos fg]
   refine gg (k:= ?_)
   exact⟨_,rfl,rfl,trivial⟩
  rw[show s.set c key val=(6,s) from(if_neg fg).trans (if_pos hd)]
  refine gg (k:= ?_)
  refine ae (tz (W:=W) (n:=n) (k:=k) (X:=X) s c hd vs va vb v0 v1) Tryz.call135 5 [0,1,2,3,4] [0,0,0,0,0] [] ?_
  refine gg (k:= ?_)
  exact⟨_,rfl,rfl,trivial⟩
 ·exact NH s c g hW hX pa pb (by simpa using hd) z z' key val cE dp vs va vb v0 v1
theorem N0 {W : Int} {n k X : Nat} (s : J) (c : Nat) (g : av W n k s) (hW : W ≤ 100000000000000) (hX : s.l.length = X * s.k) (pa : aC n k 0 c) (pb : aC n k c c) (o : dg) (ho : fE o) (hK : o.K ≠ 0) (vs va vb v0 v1 : Nat) :
    Spec Tryz.prog 34 [.ref 3 v0 7 0 0,.ref 0 vs 3 0 0,.agg (aN 0 o)] [⟨vs,.obj [.ref 3 v0 7 0 0,.ref 1 va 3 0 0,.ref 2 vb 3 0 0]⟩,⟨va,.obj [.ref 3 v0 7 0 0,.val (.int .i64 ((0:Nat):Int)),.val (.int .i64 (c:Int))]⟩,⟨vb,.obj [.ref 3 v0 7 0 0,.val (.int .i64 (c:Int)),.val (.int .i64 (c:Int))]⟩,⟨v0,.obj [.own 4 v1 1 0 s.l.length,.val (.int .i64 (X:Int)),.val (.int .i64 (s.k:Int)),.val (.int .i64 s.ar),.val (.int .i64 s.pt),.val (.bool s.dd),.val (.int .i64 s.wr)]⟩,⟨v1,.bytes s.l⟩] (ak (.al [.agg [.bs 0 (dx s c o).1.b,.sl 0 1 (fun k:List UInt8=>[AV.bs 0 k]) [] (dx s c o).1.l,.val (.int .i64 (dx s c o).1.n),.val (.bool (dx s c o).1.is),.val (.int .i64 (dx s c o).1.e)],.ref 0 vs 3 0 0]) [⟨vs,.obj [.ref 3 v0 7 0 0,.ref 1 va 3 0 0,.ref 2 vb 3 0 0]⟩,⟨va,.obj [.ref 3 v0 7 0 0,.val (.int .i64 ((0:Nat):Int)),.val (.int .i64 (c:Int))]⟩,⟨vb,.obj [.ref 3 v0 7 0 0,.val (.int .i64 (c:Int)),.val (.int .i64 (c:Int))]⟩,⟨v0,.obj [.own 4 v1 1 0 (dx s c o).2.l.length,.val (.int .i64 (X:Int)),.val (.int .i64 ((dx s c o).2.k:Int)),.val (.int .i64 (dx s c o).2.ar),.val (.int .i64 (dx s c o).2.pt),.val (.bool (dx s c o).2.dd),.val (.int .i64 (dx s c o).2.wr)]⟩,⟨v1,.bytes (dx s c o).2.l⟩] []):=by
 obtain⟨K,m,q,key,val⟩:=o
 have hk:=ho.key
 have hv:=ho.val
 have hn:=ho.n
 have hp:=ho.p
 simp only at hk hv hn hp hK
 unfold dx
 simp only
 by_cases h1:K=1
 ·rw[if_pos h1]
  have hx:=NL (X:=X) s c g pa pb 0 key vs va vb v0 v1
  have h:Spec Tryz.prog 34 [.ref 3 v0 7 0 0,.ref 0 vs 3 0 0,.agg (aN 0 ⟨K,m,q,key,val⟩)] [⟨vs,.obj [.ref 3 v0 7 0 0,.ref 1 va 3 0 0,.ref 2 vb 3 0 0]⟩,⟨va,.obj [.ref 3 v0 7 0 0,.val (.int .i64 ((0:Nat):Int)),.val (.int .i64 (c:Int))]⟩,⟨vb,.obj [.ref 3 v0 7 0 0,.val (.int .i64 (c:Int)),.val (.int .i64 (c:Int))]⟩,⟨v0,.obj [.own 4 v1 1 0 s.l.length,.val (.int .i64 (X:Int)),.val (.int .i64 (s.k:Int)),.val (.int .i64 s.ar),.val (.int .i64 s.pt),.val (.bool s.dd),.val (.int .i64 s.wr)]⟩,⟨v1,.bytes s.l⟩] (ak (.al [.agg [.bs 0 (s.kd c key).1,.val (.slice none 0 0),.val (.int .i64 0),.val (.bool (s.kd c key).2.1),.val (.int .i64 (s.kd c key).2.2)],.ref 0 vs 3 0 0]) [⟨vs,.obj [.ref 3 v0 7 0 0,.ref 1 va 3 0 0,.ref 2 vb 3 0 0]⟩,⟨va,.obj [.ref 3 v0 7 0 0,.val (.int .i64 ((0:Nat):Int)),.val (.int .i64 (c:Int))]⟩,⟨vb,.obj [.ref 3 v0 7 0 0,.val (.int .i64 (c:Int)),.val (.int .i64 (c:Int))]⟩,⟨v0,.obj [.own 4 v1 1 0 s.l.length,.val (.int .i64 (X:Int)),.val (.int .i64 (s.k:Int)),.val (.int .i64 s.ar),.val (.int .i64 s.pt),.val (.bool s.dd),.val (.int .i64 s.wr)]⟩,⟨v1,.bytes s.l⟩] []):=by
   subst h1
   generalize s.kd c key=T at hx⊢
   (
 refine aq aj Tryz.func34 rfl Tryz.ntmps34 Tryz.results34 ?_
 unfold aN
 simp only
 refine gg (k := ?_))
   refine ae (hx) Tryz.call88 5 [0,1,2,3,4] [0,0,0,0,0] [] ?_
   refine gg (k:= ?_)
   exact⟨_,rfl,rfl,trivial⟩
  exact br h trivial (AF.al (af.cons (AF.agg (af.cons AF.same (af.cons AF.cF (af.cons AF.same (af.cons AF.same (af.cons AF.same af.nil)))))) (af.cons AF.same af.nil))) ⟨rfl,BF.same,rfl,BF.same,rfl,BF.same,rfl,BF.same,rfl,BF.same,trivial⟩
 rw[if_neg h1]
 by_cases h2:K=2
 ·rw[if_pos h2]
  have hx:=Oo (X:=X) s c g hW hX pa pb 0 0 key val hk hv vs va vb v0 v1
  have h:Spec Tryz.prog 34 [.ref 3 v0 7 0 0,.ref 0 vs 3 0 0,.agg (aN 0 ⟨K,m,q,key,val⟩)] [⟨vs,.obj [.ref 3 v0 7 0 0,.ref 1 va 3 0 0,.ref 2 vb 3 0 0]⟩,⟨va,.obj [.ref 3 v0 7 0 0,.val (.int .i64 ((0:Nat):Int)),.val (.int .i64 (c:Int))]⟩,⟨vb,.obj [.ref 3 v0 7 0 0,.val (.int .i64 (c:Int)),.val (.int .i64 (c:Int))]⟩,⟨v0,.obj [.own 4 v1 1 0 s.l.length,.val (.int .i64 (X:Int)),.val (.int .i64 (s.k:Int)),.val (.int .i64 s.ar),.val (.int .i64 s.pt),.val (.bool s.dd),.val (.int .i64 s.wr)]⟩,⟨v1,.bytes s.l⟩] (ak (.al [.agg [.val (.slice none 0 0),.val (.slice none 0 0),.val (.int .i64 0),.val (.bool false),.val (.int .i64 (s.set c key val).1)],.ref 0 vs 3 0 0]) [⟨vs,.obj [.ref 3 v0 7 0 0,.ref 1 va 3 0 0,.ref 2 vb 3 0 0]⟩,⟨va,.obj [.ref 3 v0 7 0 0,.val (.int .i64 ((0:Nat):Int)),.val (.int .i64 (c:Int))]⟩,⟨vb,.obj [.ref 3 v0 7 0 0,.val (.int .i64 (c:Int)),.val (.int .i64 (c:Int))]⟩,⟨v0,.obj [.own 4 v1 1 0 (s.set c key val).2.l.length,.val (.int .i64 (X:Int)),.val (.int .i64 ((s.set c key val).2.k:Int)),.val (.int .i64 (s.set c key val).2.ar),.val (.int .i64 (s.set c key val).2.pt),.val (.bool (s.set c key val).2.dd),.val (.int .i64 (s.set c key val).2.wr)]⟩,⟨v1,.bytes (s.set c key val).2.l⟩] []):=by
   subst h2
   generalize s.set c key val=T at hx⊢
   (
 refine aq aj Tryz.func34 rfl Tryz.ntmps34 Tryz.results34 ?_
 unfold aN
 simp only
 refine gg (k := ?_))
   refine ae (hx) Tryz.call89 5 [0,1,2,3,4] [0,0,0,0,0] [] ?_
   refine gg (k:= ?_)
   exact⟨_,rfl,rfl,trivial⟩
  exact br h trivial (AF.al (af.cons (AF.agg (af.cons AF.nil (af.cons AF.cF (af.cons AF.same (af.cons AF.same (af.cons AF.same af.nil)))))) (af.cons AF.same af.nil))) ⟨rfl,BF.same,rfl,BF.same,rfl,BF.same,rfl,BF.same,rfl,BF.same,trivial⟩
 rw[if_neg h2]
 by_cases h3:K=3
 ·rw[if_pos h3]
  have hx:=NF (X:=X) s c g (by omega) pa pb 0 key vs va vb v0 v1
  have h:Spec Tryz.prog 34 [.ref 3 v0 7 0 0,.ref 0 vs 3 0 0,.agg (aN 0 ⟨K,m,q,key,val⟩)] [⟨vs,.obj [.ref 3 v0 7 0 0,.ref 1 va 3 0 0,.ref 2 vb 3 0 0]⟩,⟨va,.obj [.ref 3 v0 7 0 0,.val (.int .i64 ((0:Nat):Int)),.val (.int .i64 (c:Int))]⟩,⟨vb,.obj [.ref 3 v0 7 0 0,.val (.int .i64 (c:Int)),.val (.int .i64 (c:Int))]⟩,⟨v0,.obj [.own 4 v1 1 0 s.l.length,.val (.int .i64 (X:Int)),.val (.int .i64 (s.k:Int)),.val (.int .i64 s.ar),.val (.int .i64 s.pt),.val (.bool s.dd),.val (.int .i64 s.wr)]⟩,⟨v1,.bytes s.l⟩] (ak (.al [.agg [.val (.slice none 0 0),.val (.slice none 0 0),.val (.int .i64 0),.val (.bool false),.val (.int .i64 (s.del c key).1)],.ref 0 vs 3 0 0]) [⟨vs,.obj [.ref 3 v0 7 0 0,.ref 1 va 3 0 0,.ref 2 vb 3 0 0]⟩,⟨va,.obj [.ref 3 v0 7 0 0,.val (.int .i64 ((0:Nat):Int)),.val (.int .i64 (c:Int))]⟩,⟨vb,.obj [.ref 3 v0 7 0 0,.val (.int .i64 (c:Int)),.val (.int .i64 (c:Int))]⟩,⟨v0,.obj [.own 4 v1 1 0 (s.del c key).2.l.length,.val (.int .i64 (X:Int)),.val (.int .i64 ((s.del c key).2.k:Int)),.val (.int .i64 (s.del c key).2.ar),.val (.int .i64 (s.del c key).2.pt),.val (.bool (s.del c key).2.dd),.val (.int .i64 (s.del c key).2.wr)]⟩,⟨v1,.bytes (s.del c key).2.l⟩] []):=by
   subst h3
   generalize s.del c key=T at hx⊢
   (
 refine aq aj Tryz.func34 rfl Tryz.ntmps34 Tryz.results34 ?_
 unfold aN
 simp only
 refine gg (k := ?_))
   refine ae (hx) Tryz.call90 5 [0,1,2,3,4] [0,0,0,0,0] [] ?_
   refine gg (k:= ?_)
   exact⟨_,rfl,rfl,trivial⟩
  exact br h trivial (AF.al (af.cons (AF.agg (af.cons AF.nil (af.cons AF.cF (af.cons AF.same (af.cons AF.same (af.cons AF.same af.nil)))))) (af.cons AF.same af.nil))) ⟨rfl,BF.same,rfl,BF.same,rfl,BF.same,rfl,BF.same,rfl,BF.same,trivial⟩
 rw[if_neg h3]
 by_cases h4:K=4
 ·rw[if_pos h4]
  have hx:=Oe (X:=X) s c g pa pb vs va vb v0 v1
  have h:Spec Tryz.prog 34 [.ref 3 v0 7 0 0,.ref 0 vs 3 0 0,.agg (aN 0 ⟨K,m,q,key,val⟩)] [⟨vs,.obj [.ref 3 v0 7 0 0,.ref 1 va 3 0 0,.ref 2 vb 3 0 0]⟩,⟨va,.obj [.ref 3 v0 7 0 0,.val (.int .i64 ((0:Nat):Int)),.val (.int .i64 (c:Int))]⟩,⟨vb,.obj [.ref 3 v0 7 0 0,.val (.int .i64 (c:Int)),.val (.int .i64 (c:Int))]⟩,⟨v0,.obj [.own 4 v1 1 0 s.l.length,.val (.int .i64 (X:Int)),.val (.int .i64 (s.k:Int)),.val (.int .i64 s.ar),.val (.int .i64 s.pt),.val (.bool s.dd),.val (.int .i64 s.wr)]⟩,⟨v1,.bytes s.l⟩] (ak (.al [.agg [.val (.slice none 0 0),.sl 0 1 (fun k:List UInt8=>[AV.bs 0 k]) [] (s.me c).1,.val (.int .i64 0),.val (.bool false),.val (.int .i64 (s.me c).2)],.ref 0 vs 3 0 0]) [⟨vs,.obj [.ref 3 v0 7 0 0,.ref 1 va 3 0 0,.ref 2 vb 3 0 0]⟩,⟨va,.obj [.ref 3 v0 7 0 0,.val (.int .i64 ((0:Nat):Int)),.val (.int .i64 (c:Int))]⟩,⟨vb,.obj [.ref 3 v0 7 0 0,.val (.int .i64 (c:Int)),.val (.int .i64 (c:Int))]⟩,⟨v0,.obj [.own 4 v1 1 0 s.l.length,.val (.int .i64 (X:Int)),.val (.int .i64 (s.k:Int)),.val (.int .i64 s.ar),.val (.int .i64 s.pt),.val (.bool s.dd),.val (.int .i64 s.wr)]⟩,⟨v1,.bytes s.l⟩] []):=by
   subst h4
   generalize s.me c=T at hx⊢
   (
 refine aq aj Tryz.func34 rfl Tryz.ntmps34 Tryz.results34 ?_
 unfold aN
 simp only
 refine gg (k := ?_))
   refine ae (hx) Tryz.call91 5 [0,1,2,3,4] [0,0,0,0,0] [] ?_
   refine gg (k:= ?_)
   exact⟨_,rfl,rfl,trivial⟩
  exact br h trivial (AF.al (af.cons (AF.agg (af.cons AF.nil (af.cons AF.same (af.cons AF.same (af.cons AF.same (af.cons AF.same af.nil)))))) (af.cons AF.same af.nil))) ⟨rfl,BF.same,rfl,BF.same,rfl,BF.same,rfl,BF.same,rfl,BF.same,trivial⟩
 rw[if_neg h4]
 by_cases h5:K=5
 ·rw[if_pos h5]
  have hx:=NK (X:=X) s c g pa pb vs va vb v0 v1
  have h:Spec Tryz.prog 34 [.ref 3 v0 7 0 0,.ref 0 vs 3 0 0,.agg (aN 0 ⟨K,m,q,key,val⟩)] [⟨vs,.obj [.ref 3 v0 7 0 0,.ref 1 va 3 0 0,.ref 2 vb 3 0 0]⟩,⟨va,.obj [.ref 3 v0 7 0 0,.val (.int .i64 ((0:Nat):Int)),.val (.int .i64 (c:Int))]⟩,⟨vb,.obj [.ref 3 v0 7 0 0,.val (.int .i64 (c:Int)),.val (.int .i64 (c:Int))]⟩,⟨v0,.obj [.own 4 v1 1 0 s.l.length,.val (.int .i64 (X:Int)),.val (.int .i64 (s.k:Int)),.val (.int .i64 s.ar),.val (.int .i64 s.pt),.val (.bool s.dd),.val (.int .i64 s.wr)]⟩,⟨v1,.bytes s.l⟩] (ak (.al [.agg [.val (.slice none 0 0),.val (.slice none 0 0),.val (.int .i64 (s.nf c).1),.val (.bool false),.val (.int .i64 (s.nf c).2)],.ref 0 vs 3 0 0]) [⟨vs,.obj [.ref 3 v0 7 0 0,.ref 1 va 3 0 0,.ref 2 vb 3 0 0]⟩,⟨va,.obj [.ref 3 v0 7 0 0,.val (.int .i64 ((0:Nat):Int)),.val (.int .i64 (c:Int))]⟩,⟨vb,.obj [.ref 3 v0 7 0 0,.val (.int .i64 (c:Int)),.val (.int .i64 (c:Int))]⟩,⟨v0,.obj [.own 4 v1 1 0 s.l.length,.val (.int .i64 (X:Int)),.val (.int .i64 (s.k:Int)),.val (.int .i64 s.ar),.val (.int .i64 s.pt),.val (.bool s.dd),.val (.int .i64 s.wr)]⟩,⟨v1,.bytes s.l⟩] []):=by
   subst h5
   generalize s.nf c=T at hx⊢
   (
 refine aq aj Tryz.func34 rfl Tryz.ntmps34 Tryz.results34 ?_
 unfold aN
 simp only
 refine gg (k := ?_))
   refine ae (hx) Tryz.call92 5 [0,1,2,3,4] [0,0,0,0,0] [] ?_
   refine gg (k:= ?_)
   exact⟨_,rfl,rfl,trivial⟩
  exact br h trivial (AF.al (af.cons (AF.agg (af.cons AF.nil (af.cons AF.cF (af.cons AF.same (af.cons AF.same (af.cons AF.same af.nil)))))) (af.cons AF.same af.nil))) ⟨rfl,BF.same,rfl,BF.same,rfl,BF.same,rfl,BF.same,rfl,BF.same,trivial⟩
 rw[if_neg h5]
 by_cases h6:K=6
 ·rw[if_pos h6]
  have hx:=Fj s X m q v0 v1
  have h:Spec Tryz.prog 34 [.ref 3 v0 7 0 0,.ref 0 vs 3 0 0,.agg (aN 0 ⟨K,m,q,key,val⟩)] [⟨vs,.obj [.ref 3 v0 7 0 0,.ref 1 va 3 0 0,.ref 2 vb 3 0 0]⟩,⟨va,.obj [.ref 3 v0 7 0 0,.val (.int .i64 ((0:Nat):Int)),.val (.int .i64 (c:Int))]⟩,⟨vb,.obj [.ref 3 v0 7 0 0,.val (.int .i64 (c:Int)),.val (.int .i64 (c:Int))]⟩,⟨v0,.obj [.own 4 v1 1 0 s.l.length,.val (.int .i64 (X:Int)),.val (.int .i64 (s.k:Int)),.val (.int .i64 s.ar),.val (.int .i64 s.pt),.val (.bool s.dd),.val (.int .i64 s.wr)]⟩,⟨v1,.bytes s.l⟩] (ak (.al [.agg [.val (.slice none 0 0),.val (.slice none 0 0),.val (.int .i64 0),.val (.bool false),.val (.int .i64 (s.arm m q).1)],.ref 0 vs 3 0 0]) [⟨vs,.obj [.ref 3 v0 7 0 0,.ref 1 va 3 0 0,.ref 2 vb 3 0 0]⟩,⟨va,.obj [.ref 3 v0 7 0 0,.val (.int .i64 ((0:Nat):Int)),.val (.int .i64 (c:Int))]⟩,⟨vb,.obj [.ref 3 v0 7 0 0,.val (.int .i64 (c:Int)),.val (.int .i64 (c:Int))]⟩,⟨v0,.obj [.own 4 v1 1 0 (s.arm m q).2.l.length,.val (.int .i64 (X:Int)),.val (.int .i64 ((s.arm m q).2.k:Int)),.val (.int .i64 (s.arm m q).2.ar),.val (.int .i64 (s.arm m q).2.pt),.val (.bool (s.arm m q).2.dd),.val (.int .i64 (s.arm m q).2.wr)]⟩,⟨v1,.bytes (s.arm m q).2.l⟩] []):=by
   subst h6
   generalize s.arm m q=T at hx⊢
   (
 refine aq aj Tryz.func34 rfl Tryz.ntmps34 Tryz.results34 ?_
 unfold aN
 simp only
 refine gg (k := ?_))
   refine ae (hx) Tryz.call93 2 [3,4] [0,0] [] ?_
   refine gg (k:= ?_)
   exact⟨_,rfl,rfl,trivial⟩
  exact br h trivial (AF.al (af.cons (AF.agg (af.cons AF.nil (af.cons AF.cF (af.cons AF.same (af.cons AF.same (af.cons AF.same af.nil)))))) (af.cons AF.same af.nil))) ⟨rfl,BF.same,rfl,BF.same,rfl,BF.same,rfl,BF.same,rfl,BF.same,trivial⟩
 rw[if_neg h6]
 by_cases h7:K=7
 ·rw[if_pos h7]
  have hx:=Fk s X v0 v1
  have h:Spec Tryz.prog 34 [.ref 3 v0 7 0 0,.ref 0 vs 3 0 0,.agg (aN 0 ⟨K,m,q,key,val⟩)] [⟨vs,.obj [.ref 3 v0 7 0 0,.ref 1 va 3 0 0,.ref 2 vb 3 0 0]⟩,⟨va,.obj [.ref 3 v0 7 0 0,.val (.int .i64 ((0:Nat):Int)),.val (.int .i64 (c:Int))]⟩,⟨vb,.obj [.ref 3 v0 7 0 0,.val (.int .i64 (c:Int)),.val (.int .i64 (c:Int))]⟩,⟨v0,.obj [.own 4 v1 1 0 s.l.length,.val (.int .i64 (X:Int)),.val (.int .i64 (s.k:Int)),.val (.int .i64 s.ar),.val (.int .i64 s.pt),.val (.bool s.dd),.val (.int .i64 s.wr)]⟩,⟨v1,.bytes s.l⟩] (ak (.al [.agg [.val (.slice none 0 0),.val (.slice none 0 0),.val (.int .i64 0),.val (.bool false),.val (.int .i64 s.on.1)],.ref 0 vs 3 0 0]) [⟨vs,.obj [.ref 3 v0 7 0 0,.ref 1 va 3 0 0,.ref 2 vb 3 0 0]⟩,⟨va,.obj [.ref 3 v0 7 0 0,.val (.int .i64 ((0:Nat):Int)),.val (.int .i64 (c:Int))]⟩,⟨vb,.obj [.ref 3 v0 7 0 0,.val (.int .i64 (c:Int)),.val (.int .i64 (c:Int))]⟩,⟨v0,.obj [.own 4 v1 1 0 s.on.2.l.length,.val (.int .i64 (X:Int)),.val (.int .i64 (s.on.2.k:Int)),.val (.int .i64 s.on.2.ar),.val (.int .i64 s.on.2.pt),.val (.bool s.on.2.dd),.val (.int .i64 s.on.2.wr)]⟩,⟨v1,.bytes s.on.2.l⟩] []):=by
   subst h7
   generalize s.on=T at hx⊢
   (
 refine aq aj Tryz.func34 rfl Tryz.ntmps34 Tryz.results34 ?_
 unfold aN
 simp only
 refine gg (k := ?_))
   refine ae (hx) Tryz.call94 2 [3,4] [0,0] [] ?_
   refine gg (k:= ?_)
   exact⟨_,rfl,rfl,trivial⟩
  exact br h trivial (AF.al (af.cons (AF.agg (af.cons AF.nil (af.cons AF.cF (af.cons AF.same (af.cons AF.same (af.cons AF.same af.nil)))))) (af.cons AF.same af.nil))) ⟨rfl,BF.same,rfl,BF.same,rfl,BF.same,rfl,BF.same,rfl,BF.same,trivial⟩
 rw[if_neg h7]
 have h:Spec Tryz.prog 34 [.ref 3 v0 7 0 0,.ref 0 vs 3 0 0,.agg (aN 0 ⟨K,m,q,key,val⟩)] [⟨vs,.obj [.ref 3 v0 7 0 0,.ref 1 va 3 0 0,.ref 2 vb 3 0 0]⟩,⟨va,.obj [.ref 3 v0 7 0 0,.val (.int .i64 ((0:Nat):Int)),.val (.int .i64 (c:Int))]⟩,⟨vb,.obj [.ref 3 v0 7 0 0,.val (.int .i64 (c:Int)),.val (.int .i64 (c:Int))]⟩,⟨v0,.obj [.own 4 v1 1 0 s.l.length,.val (.int .i64 (X:Int)),.val (.int .i64 (s.k:Int)),.val (.int .i64 s.ar),.val (.int .i64 s.pt),.val (.bool s.dd),.val (.int .i64 s.wr)]⟩,⟨v1,.bytes s.l⟩] (ak (.al [.agg [.val (.slice none 0 0),.val (.slice none 0 0),.val (.int .i64 0),.val (.bool false),.val (.int .i64 0)],.ref 0 vs 3 0 0]) [⟨vs,.obj [.ref 3 v0 7 0 0,.ref 1 va 3 0 0,.ref 2 vb 3 0 0]⟩,⟨va,.obj [.ref 3 v0 7 0 0,.val (.int .i64 ((0:Nat):Int)),.val (.int .i64 (c:Int))]⟩,⟨vb,.obj [.ref 3 v0 7 0 0,.val (.int .i64 (c:Int)),.val (.int .i64 (c:Int))]⟩,⟨v0,.obj [.own 4 v1 1 0 s.l.length,.val (.int .i64 (X:Int)),.val (.int .i64 (s.k:Int)),.val (.int .i64 s.ar),.val (.int .i64 s.pt),.val (.bool s.dd),.val (.int .i64 s.wr)]⟩,⟨v1,.bytes s.l⟩] []):=by
  have e0:decide (K=0)=false:=decide_eq_false hK
  have e1:decide (K=1)=false:=decide_eq_false h1
  have e2:decide (K=2)=false:=decide_eq_false h2
  have e3:decide (K=3)=false:=decide_eq_false h3
  have e4:decide (K=4)=false:=decide_eq_false h4
  have e5:decide (K=5)=false:=decide_eq_false h5
  have e6:decide (K=6)=false:=decide_eq_false h6
  have e7:decide (K=7)=false:=decide_eq_false h7
  (
 refine aq aj Tryz.func34 rfl Tryz.ntmps34 Tryz.results34 ?_
 unfold aN
 simp only
 refine gg (k:= ?_))
  exact⟨_,rfl,rfl,trivial⟩
 exact br h trivial (AF.al (af.cons (AF.agg (af.cons AF.nil (af.cons AF.cF (af.cons AF.same (af.cons AF.same (af.cons AF.same af.nil)))))) (af.cons AF.same af.nil))) ⟨rfl,BF.same,rfl,BF.same,rfl,BF.same,rfl,BF.same,rfl,BF.same,trivial⟩
theorem N2 {X : Nat} (s : J) (o : dg) (ho : fE o) (hK : o.K ≠ 0) (vs va vb v0 v1 : Nat) :
    Spec Tryz.prog 34 [.ref 3 v0 7 0 0,.val (.pointer none),.agg (aN 0 o)] [⟨vs,.dead⟩,⟨va,.dead⟩,⟨vb,.dead⟩,⟨v0,.obj [.own 4 v1 1 0 s.l.length,.val (.int .i64 (X:Int)),.val (.int .i64 (s.k:Int)),.val (.int .i64 s.ar),.val (.int .i64 s.pt),.val (.bool s.dd),.val (.int .i64 s.wr)]⟩,⟨v1,.bytes s.l⟩] (ak (.al [.agg [.bs 0 (dy s o).1.b,.sl 0 1 (fun k:List UInt8=>[AV.bs 0 k]) [] (dy s o).1.l,.val (.int .i64 (dy s o).1.n),.val (.bool (dy s o).1.is),.val (.int .i64 (dy s o).1.e)],.val (.pointer none)]) [⟨vs,.dead⟩,⟨va,.dead⟩,⟨vb,.dead⟩,⟨v0,.obj [.own 4 v1 1 0 (dy s o).2.l.length,.val (.int .i64 (X:Int)),.val (.int .i64 ((dy s o).2.k:Int)),.val (.int .i64 (dy s o).2.ar),.val (.int .i64 (dy s o).2.pt),.val (.bool (dy s o).2.dd),.val (.int .i64 (dy s o).2.wr)]⟩,⟨v1,.bytes (dy s o).2.l⟩] []):=by
 obtain⟨K,m,q,key,val⟩:=o
 simp only at hK
 unfold dy
 simp only
 by_cases h6:K=6
 ·rw[if_pos h6]
  have hx:=Fj s X m q v0 v1
  have h:Spec Tryz.prog 34 [.ref 3 v0 7 0 0,.val (.pointer none),.agg (aN 0 ⟨K,m,q,key,val⟩)] [⟨vs,.dead⟩,⟨va,.dead⟩,⟨vb,.dead⟩,⟨v0,.obj [.own 4 v1 1 0 s.l.length,.val (.int .i64 (X:Int)),.val (.int .i64 (s.k:Int)),.val (.int .i64 s.ar),.val (.int .i64 s.pt),.val (.bool s.dd),.val (.int .i64 s.wr)]⟩,⟨v1,.bytes s.l⟩] (ak (.al [.agg [.val (.slice none 0 0),.val (.slice none 0 0),.val (.int .i64 0),.val (.bool false),.val (.int .i64 (s.arm m q).1)],.val (.pointer none)]) [⟨vs,.dead⟩,⟨va,.dead⟩,⟨vb,.dead⟩,⟨v0,.obj [.own 4 v1 1 0 (s.arm m q).2.l.length,.val (.int .i64 (X:Int)),.val (.int .i64 ((s.arm m q).2.k:Int)),.val (.int .i64 (s.arm m q).2.ar),.val (.int .i64 (s.arm m q).2.pt),.val (.bool (s.arm m q).2.dd),.val (.int .i64 (s.arm m q).2.wr)]⟩,⟨v1,.bytes (s.arm m q).2.l⟩] []):=by
   subst h6
   generalize s.arm m q=T at hx⊢
   (
 refine aq aj Tryz.func34 rfl Tryz.ntmps34 Tryz.results34 ?_
 unfold aN
 simp only
 refine gg (k := ?_))
   refine ae (hx) Tryz.call93 2 [3,4] [0,0] [] ?_
   refine gg (k:= ?_)
   exact⟨_,rfl,rfl,trivial⟩
  exact br h trivial (AF.al (af.cons (AF.agg (af.cons AF.nil (af.cons AF.cF (af.cons AF.same (af.cons AF.same (af.cons AF.same af.nil)))))) (af.cons AF.same af.nil))) ⟨rfl,BF.same,rfl,BF.same,rfl,BF.same,rfl,BF.same,rfl,BF.same,trivial⟩
 rw[if_neg h6]
 by_cases h7:K=7
 ·rw[if_pos h7]
  have hx:=Fk s X v0 v1
  have h:Spec Tryz.prog 34 [.ref 3 v0 7 0 0,.val (.pointer none),.agg (aN 0 ⟨K,m,q,key,val⟩)] [⟨vs,.dead⟩,⟨va,.dead⟩,⟨vb,.dead⟩,⟨v0,.obj [.own 4 v1 1 0 s.l.length,.val (.int .i64 (X:Int)),.val (.int .i64 (s.k:Int)),.val (.int .i64 s.ar),.val (.int .i64 s.pt),.val (.bool s.dd),.val (.int .i64 s.wr)]⟩,⟨v1,.bytes s.l⟩] (ak (.al [.agg [.val (.slice none 0 0),.val (.slice none 0 0),.val (.int .i64 0),.val (.bool false),.val (.int .i64 s.on.1)],.val (.pointer none)]) [⟨vs,.dead⟩,⟨va,.dead⟩,⟨vb,.dead⟩,⟨v0,.obj [.own 4 v1 1 0 s.on.2.l.length,.val (.int .i64 (X:Int)),.val (.int .i64 (s.on.2.k:Int)),.val (.int .i64 s.on.2.ar),.val (.int .i64 s.on.2.pt),.val (.bool s.on.2.dd),.val (.int .i64 s.on.2.wr)]⟩,⟨v1,.bytes s.on.2.l⟩] []):=by
   subst h7
   generalize s.on=T at hx⊢
   (
 refine aq aj Tryz.func34 rfl Tryz.ntmps34 Tryz.results34 ?_
 unfold aN
 simp only
 refine gg (k := ?_))
   refine ae (hx) Tryz.call94 2 [3,4] [0,0] [] ?_
   refine gg (k:= ?_)
   exact⟨_,rfl,rfl,trivial⟩
  exact br h trivial (AF.al (af.cons (AF.agg (af.cons AF.nil (af.cons AF.cF (af.cons AF.same (af.cons AF.same (af.cons AF.same af.nil)))))) (af.cons AF.same af.nil))) ⟨rfl,BF.same,rfl,BF.same,rfl,BF.same,rfl,BF.same,rfl,BF.same,trivial⟩
 rw[if_neg h7]
 by_cases h1:K=1
 ·have h:Spec Tryz.prog 34 [.ref 3 v0 7 0 0,.val (.pointer none),.agg (aN 0 ⟨K,m,q,key,val⟩)] [⟨vs,.dead⟩,⟨va,.dead⟩,⟨vb,.dead⟩,⟨v0,.obj [.own 4 v1 1 0 s.l.length,.val (.int .i64 (X:Int)),.val (.int .i64 (s.k:Int)),.val (.int .i64 s.ar),.val (.int .i64 s.pt),.val (.bool s.dd),.val (.int .i64 s.wr)]⟩,⟨v1,.bytes s.l⟩] (ak (.al [.agg [.bs 0 [],.val (.slice none 0 0),.val (.int .i64 0),.val (.bool false),.val (.int .i64 2)],.val (.pointer none)]) [⟨vs,.dead⟩,⟨va,.dead⟩,⟨vb,.dead⟩,⟨v0,.obj [.own 4 v1 1 0 s.l.length,.val (.int .i64 (X:Int)),.val (.int .i64 (s.k:Int)),.val (.int .i64 s.ar),.val (.int .i64 s.pt),.val (.bool s.dd),.val (.int .i64 s.wr)]⟩,⟨v1,.bytes s.l⟩] []):=by
    subst h1
    (
 refine aq aj Tryz.func34 rfl Tryz.ntmps34 Tryz.results34 ?_
 unfold aN
 simp only
 refine gg (k := ?_))
    refine ae (Of 0 key) Tryz.call88 0 [] [] [] ?_
    refine gg (k:= ?_)
    exact⟨_,rfl,rfl,trivial⟩
  rw[if_pos (by omega)]
  exact br h trivial (AF.al (af.cons (AF.agg (af.cons AF.same (af.cons AF.cF (af.cons AF.same (af.cons AF.same (af.cons AF.same af.nil)))))) (af.cons AF.same af.nil))) ⟨rfl,BF.same,rfl,BF.same,rfl,BF.same,rfl,BF.same,rfl,BF.same,trivial⟩
 (
 by_cases tJ:K=2
 ·have h:Spec Tryz.prog 34 [.ref 3 v0 7 0 0,.val (.pointer none),.agg (aN 0 ⟨K,m,q,key,val⟩)] [⟨vs,.dead⟩,⟨va,.dead⟩,⟨vb,.dead⟩,⟨v0,.obj [.own 4 v1 1 0 s.l.length,.val (.int .i64 (X:Int)),.val (.int .i64 (s.k:Int)),.val (.int .i64 s.ar),.val (.int .i64 s.pt),.val (.bool s.dd),.val (.int .i64 s.wr)]⟩,⟨v1,.bytes s.l⟩] (ak (.al [.agg [.val (.slice none 0 0),.val (.slice none 0 0),.val (.int .i64 0),.val (.bool false),.val (.int .i64 2)],.val (.pointer none)]) [⟨vs,.dead⟩,⟨va,.dead⟩,⟨vb,.dead⟩,⟨v0,.obj [.own 4 v1 1 0 s.l.length,.val (.int .i64 (X:Int)),.val (.int .i64 (s.k:Int)),.val (.int .i64 s.ar),.val (.int .i64 s.pt),.val (.bool s.dd),.val (.int .i64 s.wr)]⟩,⟨v1,.bytes s.l⟩] []):=by
    subst tJ
    (
 refine aq aj Tryz.func34 rfl Tryz.ntmps34 Tryz.results34 ?_
 unfold aN
 simp only
 refine gg (k := ?_))
    refine ae (Oj 0 0 key val) Tryz.call89 0 [] [] [] ?_
    refine gg (k:= ?_)
    exact⟨_,rfl,rfl,trivial⟩
  rw[if_pos (by omega)]
  exact br h trivial (AF.al (af.cons (AF.agg (af.cons AF.nil (af.cons AF.cF (af.cons AF.same (af.cons AF.same (af.cons AF.same af.nil)))))) (af.cons AF.same af.nil))) ⟨rfl,BF.same,rfl,BF.same,rfl,BF.same,rfl,BF.same,rfl,BF.same,trivial⟩)
 (
 by_cases tJ:K=3
 ·have h:Spec Tryz.prog 34 [.ref 3 v0 7 0 0,.val (.pointer none),.agg (aN 0 ⟨K,m,q,key,val⟩)] [⟨vs,.dead⟩,⟨va,.dead⟩,⟨vb,.dead⟩,⟨v0,.obj [.own 4 v1 1 0 s.l.length,.val (.int .i64 (X:Int)),.val (.int .i64 (s.k:Int)),.val (.int .i64 s.ar),.val (.int .i64 s.pt),.val (.bool s.dd),.val (.int .i64 s.wr)]⟩,⟨v1,.bytes s.l⟩] (ak (.al [.agg [.val (.slice none 0 0),.val (.slice none 0 0),.val (.int .i64 0),.val (.bool false),.val (.int .i64 2)],.val (.pointer none)]) [⟨vs,.dead⟩,⟨va,.dead⟩,⟨vb,.dead⟩,⟨v0,.obj [.own 4 v1 1 0 s.l.length,.val (.int .i64 (X:Int)),.val (.int .i64 (s.k:Int)),.val (.int .i64 s.ar),.val (.int .i64 s.pt),.val (.bool s.dd),.val (.int .i64 s.wr)]⟩,⟨v1,.bytes s.l⟩] []):=by
    subst tJ
    (
 refine aq aj Tryz.func34 rfl Tryz.ntmps34 Tryz.results34 ?_
 unfold aN
 simp only
 refine gg (k := ?_))
    refine ae (Oi 0 key) Tryz.call90 0 [] [] [] ?_
    refine gg (k:= ?_)
    exact⟨_,rfl,rfl,trivial⟩
  rw[if_pos (by omega)]
  exact br h trivial (AF.al (af.cons (AF.agg (af.cons AF.nil (af.cons AF.cF (af.cons AF.same (af.cons AF.same (af.cons AF.same af.nil)))))) (af.cons AF.same af.nil))) ⟨rfl,BF.same,rfl,BF.same,rfl,BF.same,rfl,BF.same,rfl,BF.same,trivial⟩)
 by_cases h4:K=4
 ·have h:Spec Tryz.prog 34 [.ref 3 v0 7 0 0,.val (.pointer none),.agg (aN 0 ⟨K,m,q,key,val⟩)] [⟨vs,.dead⟩,⟨va,.dead⟩,⟨vb,.dead⟩,⟨v0,.obj [.own 4 v1 1 0 s.l.length,.val (.int .i64 (X:Int)),.val (.int .i64 (s.k:Int)),.val (.int .i64 s.ar),.val (.int .i64 s.pt),.val (.bool s.dd),.val (.int .i64 s.wr)]⟩,⟨v1,.bytes s.l⟩] (ak (.al [.agg [.val (.slice none 0 0),.sl 0 1 (fun k:List UInt8=>[AV.bs 0 k]) [] [],.val (.int .i64 0),.val (.bool false),.val (.int .i64 2)],.val (.pointer none)]) [⟨vs,.dead⟩,⟨va,.dead⟩,⟨vb,.dead⟩,⟨v0,.obj [.own 4 v1 1 0 s.l.length,.val (.int .i64 (X:Int)),.val (.int .i64 (s.k:Int)),.val (.int .i64 s.ar),.val (.int .i64 s.pt),.val (.bool s.dd),.val (.int .i64 s.wr)]⟩,⟨v1,.bytes s.l⟩] []):=by
    subst h4
    (
 refine aq aj Tryz.func34 rfl Tryz.ntmps34 Tryz.results34 ?_
 unfold aN
 simp only
 refine gg (k := ?_))
    refine ae (Og) Tryz.call91 0 [] [] [] ?_
    refine gg (k:= ?_)
    exact⟨_,rfl,rfl,trivial⟩
  rw[if_pos (by omega)]
  exact br h trivial (AF.al (af.cons (AF.agg (af.cons AF.nil (af.cons AF.same (af.cons AF.same (af.cons AF.same (af.cons AF.same af.nil)))))) (af.cons AF.same af.nil))) ⟨rfl,BF.same,rfl,BF.same,rfl,BF.same,rfl,BF.same,rfl,BF.same,trivial⟩
 (
 by_cases tJ:K=5
 ·have h:Spec Tryz.prog 34 [.ref 3 v0 7 0 0,.val (.pointer none),.agg (aN 0 ⟨K,m,q,key,val⟩)] [⟨vs,.dead⟩,⟨va,.dead⟩,⟨vb,.dead⟩,⟨v0,.obj [.own 4 v1 1 0 s.l.length,.val (.int .i64 (X:Int)),.val (.int .i64 (s.k:Int)),.val (.int .i64 s.ar),.val (.int .i64 s.pt),.val (.bool s.dd),.val (.int .i64 s.wr)]⟩,⟨v1,.bytes s.l⟩] (ak (.al [.agg [.val (.slice none 0 0),.val (.slice none 0 0),.val (.int .i64 0),.val (.bool false),.val (.int .i64 2)],.val (.pointer none)]) [⟨vs,.dead⟩,⟨va,.dead⟩,⟨vb,.dead⟩,⟨v0,.obj [.own 4 v1 1 0 s.l.length,.val (.int .i64 (X:Int)),.val (.int .i64 (s.k:Int)),.val (.int .i64 s.ar),.val (.int .i64 s.pt),.val (.bool s.dd),.val (.int .i64 s.wr)]⟩,⟨v1,.bytes s.l⟩] []):=by
    subst tJ
    (
 refine aq aj Tryz.func34 rfl Tryz.ntmps34 Tryz.results34 ?_
 unfold aN
 simp only
 refine gg (k := ?_))
    refine ae (Oh) Tryz.call92 0 [] [] [] ?_
    refine gg (k:= ?_)
    exact⟨_,rfl,rfl,trivial⟩
  rw[if_pos (by omega)]
  exact br h trivial (AF.al (af.cons (AF.agg (af.cons AF.nil (af.cons AF.cF (af.cons AF.same (af.cons AF.same (af.cons AF.same af.nil)))))) (af.cons AF.same af.nil))) ⟨rfl,BF.same,rfl,BF.same,rfl,BF.same,rfl,BF.same,rfl,BF.same,trivial⟩)
 rw[if_neg (by omega)]
 have h:Spec Tryz.prog 34 [.ref 3 v0 7 0 0,.val (.pointer none),.agg (aN 0 ⟨K,m,q,key,val⟩)] [⟨vs,.dead⟩,⟨va,.dead⟩,⟨vb,.dead⟩,⟨v0,.obj [.own 4 v1 1 0 s.l.length,.val (.int .i64 (X:Int)),.val (.int .i64 (s.k:Int)),.val (.int .i64 s.ar),.val (.int .i64 s.pt),.val (.bool s.dd),.val (.int .i64 s.wr)]⟩,⟨v1,.bytes s.l⟩] (ak (.al [.agg [.val (.slice none 0 0),.val (.slice none 0 0),.val (.int .i64 0),.val (.bool false),.val (.int .i64 0)],.val (.pointer none)]) [⟨vs,.dead⟩,⟨va,.dead⟩,⟨vb,.dead⟩,⟨v0,.obj [.own 4 v1 1 0 s.l.length,.val (.int .i64 (X:Int)),.val (.int .i64 (s.k:Int)),.val (.int .i64 s.ar),.val (.int .i64 s.pt),.val (.bool s.dd),.val (.int .i64 s.wr)]⟩,⟨v1,.bytes s.l⟩] []):=by
  have e0:decide (K=0)=false:=decide_eq_false hK
  have e1:decide (K=1)=false:=decide_eq_false h1
  (
 refine aq aj Tryz.func34 rfl Tryz.ntmps34 Tryz.results34 ?_
 unfold aN
 simp only
 refine gg (k:= ?_))
  exact⟨_,rfl,rfl,trivial⟩
 exact br h trivial (AF.al (af.cons (AF.agg (af.cons AF.nil (af.cons AF.cF (af.cons AF.same (af.cons AF.same (af.cons AF.same af.nil)))))) (af.cons AF.same af.nil))) ⟨rfl,BF.same,rfl,BF.same,rfl,BF.same,rfl,BF.same,rfl,BF.same,trivial⟩
theorem tG {X : Nat} (s s2 : J) (e : Int) (o : dg) (hK : o.K = 0) (v0 v1 : Nat) (hx : Spec Tryz.prog 87 [.ref 0 v0 7 0 0] [⟨v0, .obj [.own 1 v1 1 0 s.l.length, .val (.int .i64 (X : Int)), .val (.int .i64 (s.k : Int)), .val (.int .i64 s.ar), .val (.int .i64 s.pt), .val (.bool s.dd), .val (.int .i64 s.wr)]⟩, ⟨v1, .bytes s.l⟩] (ak (.al [.val (.pointer none), .val (.int .i64 e)]) [⟨v0, .obj [.own 1 v1 1 0 s2.l.length, .val (.int .i64 (X : Int)), .val (.int .i64 (s2.k : Int)), .val (.int .i64 s2.ar), .val (.int .i64 s2.pt), .val (.bool s2.dd), .val (.int .i64 s2.wr)]⟩, ⟨v1, .bytes s2.l⟩] [])) (S : AV) (B0 B1 B2 : Bd) (vs va vb : Nat) :
    Spec Tryz.prog 34 [.ref 3 v0 7 0 0,S,.agg (aN 0 o)] [⟨vs,B0⟩,⟨va,B1⟩,⟨vb,B2⟩,⟨v0,.obj [.own 4 v1 1 0 s.l.length,.val (.int .i64 (X:Int)),.val (.int .i64 (s.k:Int)),.val (.int .i64 s.ar),.val (.int .i64 s.pt),.val (.bool s.dd),.val (.int .i64 s.wr)]⟩,⟨v1,.bytes s.l⟩] (ak (.al [.agg [.bs 0 [],.sl 0 1 (fun k:List UInt8=>[AV.bs 0 k]) [] [],.val (.int .i64 0),.val (.bool false),.val (.int .i64 e)],.val (.pointer none)]) [⟨vs,B0⟩,⟨va,B1⟩,⟨vb,B2⟩,⟨v0,.obj [.own 4 v1 1 0 s2.l.length,.val (.int .i64 (X:Int)),.val (.int .i64 (s2.k:Int)),.val (.int .i64 s2.ar),.val (.int .i64 s2.pt),.val (.bool s2.dd),.val (.int .i64 s2.wr)]⟩,⟨v1,.bytes s2.l⟩] []):=by
 obtain⟨K,m,q,key,val⟩:=o
 simp only at hK
 subst hK
 have h:Spec Tryz.prog 34 [.ref 3 v0 7 0 0,S,.agg (aN 0 ⟨0,m,q,key,val⟩)] [⟨vs,B0⟩,⟨va,B1⟩,⟨vb,B2⟩,⟨v0,.obj [.own 4 v1 1 0 s.l.length,.val (.int .i64 (X:Int)),.val (.int .i64 (s.k:Int)),.val (.int .i64 s.ar),.val (.int .i64 s.pt),.val (.bool s.dd),.val (.int .i64 s.wr)]⟩,⟨v1,.bytes s.l⟩] (ak (.al [.agg [.val (.slice none 0 0),.val (.slice none 0 0),.val (.int .i64 0),.val (.bool false),.val (.int .i64 e)],.val (.pointer none)]) [⟨vs,B0⟩,⟨va,B1⟩,⟨vb,B2⟩,⟨v0,.obj [.own 4 v1 1 0 s2.l.length,.val (.int .i64 (X:Int)),.val (.int .i64 (s2.k:Int)),.val (.int .i64 s2.ar),.val (.int .i64 s2.pt),.val (.bool s2.dd),.val (.int .i64 s2.wr)]⟩,⟨v1,.bytes s2.l⟩] []):=by
  (
 refine aq aj Tryz.func34 rfl Tryz.ntmps34 Tryz.results34 ?_
 unfold aN
 simp only
 refine gg (k:= ?_))
  refine ae (hx) Tryz.call87 2 [3,4] [0,0] [] ?_
  refine gg (k:= ?_)
  exact⟨_,rfl,rfl,trivial⟩
 exact br h trivial (AF.al (af.cons (AF.agg (af.cons AF.nil (af.cons AF.cF (af.cons AF.same (af.cons AF.same (af.cons AF.same af.nil)))))) (af.cons AF.same af.nil))) ⟨rfl,BF.same,rfl,BF.same,rfl,BF.same,rfl,BF.same,rfl,BF.same,trivial⟩
theorem F9 {W : Int} {n k X : Nat} (s : J) (c : Nat) (g : av W n k s) (hW : W ≤ 100000000000000) (pa : aC n k 0 c) (pb : aC n k c c) (hX : X = 2 * c) (hn : n = 2 * c * k) (hd : s.dd = false) (h0 : (s.bg c).1 = 0) (o : dg) (hK : o.K = 0) (S : AV) (B0 B1 B2 : Bd) (vs va vb v0 v1 : Nat) :
    Spec Tryz.prog 34 [.ref 3 v0 7 0 0,S,.agg (aN 0 o)] [⟨vs,B0⟩,⟨va,B1⟩,⟨vb,B2⟩,⟨v0,.obj [.own 4 v1 1 0 s.l.length,.val (.int .i64 (X:Int)),.val (.int .i64 (s.k:Int)),.val (.int .i64 s.ar),.val (.int .i64 s.pt),.val (.bool s.dd),.val (.int .i64 s.wr)]⟩,⟨v1,.bytes s.l⟩] (ak (.al [.agg [.bs 0 [],.sl 0 1 (fun k:List UInt8=>[AV.bs 0 k]) [] [],.val (.int .i64 0),.val (.bool false),.val (.int .i64 0)],.ref 0 (1+(vs+1)) 3 0 0]) [⟨(1+(vs+1)),.obj [.ref 3 v0 7 0 0,.ref 1 (2+(va+1)) 3 0 0,.ref 2 (2+(vb+1)) 3 0 0]⟩,⟨(2+(va+1)),.obj [.ref 3 v0 7 0 0,.val (.int .i64 ((0:Nat):Int)),.val (.int .i64 (c:Int))]⟩,⟨(2+(vb+1)),.obj [.ref 3 v0 7 0 0,.val (.int .i64 (c:Int)),.val (.int .i64 (c:Int))]⟩,⟨v0,.obj [.own 4 v1 1 0 (s.bg c).2.l.length,.val (.int .i64 (X:Int)),.val (.int .i64 ((s.bg c).2.k:Int)),.val (.int .i64 (s.bg c).2.ar),.val (.int .i64 (s.bg c).2.pt),.val (.bool (s.bg c).2.dd),.val (.int .i64 (s.bg c).2.wr)]⟩,⟨v1,.bytes (s.bg c).2.l⟩] []):=by
 obtain⟨K,m,q,key,val⟩:=o
 simp only at hK
 subst hK
 have hx:=jZ (AE (X:=X) s c g hW pa pb hX hn hd v0 v1) fun Y H r=>r.1 h0
 generalize s.bg c=T at hx⊢
 have h:Spec Tryz.prog 34 [.ref 3 v0 7 0 0,S,.agg (aN 0 ⟨0,m,q,key,val⟩)] [⟨vs,B0⟩,⟨va,B1⟩,⟨vb,B2⟩,⟨v0,.obj [.own 4 v1 1 0 s.l.length,.val (.int .i64 (X:Int)),.val (.int .i64 (s.k:Int)),.val (.int .i64 s.ar),.val (.int .i64 s.pt),.val (.bool s.dd),.val (.int .i64 s.wr)]⟩,⟨v1,.bytes s.l⟩] (ak (.al [.agg [.val (.slice none 0 0),.val (.slice none 0 0),.val (.int .i64 0),.val (.bool false),.val (.int .i64 0)],.ref 0 (1+(vs+1)) 3 0 0]) [⟨(1+(vs+1)),.obj [.ref 3 v0 7 0 0,.ref 1 (2+(va+1)) 3 0 0,.ref 2 (2+(vb+1)) 3 0 0]⟩,⟨(2+(va+1)),.obj [.ref 3 v0 7 0 0,.val (.int .i64 ((0:Nat):Int)),.val (.int .i64 (c:Int))]⟩,⟨(2+(vb+1)),.obj [.ref 3 v0 7 0 0,.val (.int .i64 (c:Int)),.val (.int .i64 (c:Int))]⟩,⟨v0,.obj [.own 4 v1 1 0 T.2.l.length,.val (.int .i64 (X:Int)),.val (.int .i64 (T.2.k:Int)),.val (.int .i64 T.2.ar),.val (.int .i64 T.2.pt),.val (.bool T.2.dd),.val (.int .i64 T.2.wr)]⟩,⟨v1,.bytes T.2.l⟩] []):=by
  (
 refine aq aj Tryz.func34 rfl Tryz.ntmps34 Tryz.results34 ?_
 unfold aN
 simp only
 refine gg (k:= ?_))
  refine ae (hx) Tryz.call87 (had:=⟨⟨_,rfl,Nat.lt_succ_self vs⟩,⟨_,rfl,Nat.lt_succ_self va⟩,⟨_,rfl,Nat.lt_succ_self vb⟩,trivial⟩) (hz:=fun r hr=>by match r,hr with | 0,_=>rfl | 1,_=>rfl) 2 [3,4,0,0,0,0,0,1,0,2,0,0,0,0,0,0,0,0,0,0,0,0,0,0,0,0,0,0,0,0,0,0,0,0,0,0,0,0,0,0,0,0,0,0,0,0,0,0,0,0,0,0,0,0,0,0,0,0,0,0,0,0,0,0,0,0,0,0,0,0,0] [0,0,0,0,0,0,0,(va+1),0,(vb+1),0,0,0,0,0,0,0,0,0,0,0,0,0,0,0,0,0,0,0,0,0,0,0,0,0,0,0,0,0,0,0,0,0,0,0,0,0,0,0,0,0,0,0,0,0,0,0,0,0,0,0,0,0,0,0,0,0,0,0,0,(vs+1)] [70,7,9] ?_
  refine gg (k:= ?_)
  exact⟨_,rfl,rfl,trivial⟩
 exact br h trivial (AF.al (af.cons (AF.agg (af.cons AF.nil (af.cons AF.cF (af.cons AF.same (af.cons AF.same (af.cons AF.same af.nil)))))) (af.cons AF.same af.nil))) ⟨rfl,BF.same,rfl,BF.same,rfl,BF.same,rfl,BF.same,rfl,BF.same,trivial⟩
end Go.Proofs.YtpbpiehcchannaaGreatDoor
