/- Walks of lintellaw09: NvramPlays. Conditions: none. -/
import Derived.Test.YtpbpiehcchannaaGreatDoorJNkg
import Derived.Test.YtpbpiehcchannaaGreatDoorJNkb
namespace Go.Proofs.YtpbpiehcchannaaGreatDoor
open Go.RowKit
set_option linter.unusedVariables false
set_option linter.unusedSimpArgs false
set_option maxRecDepth 100000
set_option maxHeartbeats 9000000
theorem I{X Y:Prop}(k:Y)(hX:Wr Y→X:=by(intro h;(repeat (first | refine aX (k:= ?_) | refine fun(_:_=false)=> ?_ | refine⟨fun(_:true=true)=> ?_,fun h=>absurd h (by decide)⟩ | refine gtr (k:= ?_)));(with_reducible exact h.o))):X:=hX ⟨k⟩
theorem QF{a b:Nat}(h:Nat.ble a b=true):a≤b:=Nat.le_of_ble_eq_true h
open Go.Proofs.Tryz
theorem av.AB{n k:Nat}(a c:Nat)(l:List RK):∀(m j:Nat){B:Int}{s:J},av B n k s→av (B+m) n k (s.dc a c l j m).2
 | 0,j,B,s,g=>g.mono (by omega)
 | m+1,j,B,s,g=>by
  rw[J.dc]
  split
  ·split
   ·exact(av.AB a c l m (j+1) (g.kill a c j)).mono (by omega)
   ·exact(g.kill a c j).mono (by omega)
  ·exact(av.AB a c l m (j+1) g).mono (by omega)
theorem av.F4{B:Int}{n k:Nat}{s:J}(g:av B n k s){c:Nat}(pa:aC n k 0 c)(pb:aC n k c c):av (B+20000000) n k (s.bg c).2:=by
 have kJ:c≤4194304:=pa.ac.2
 have ht:∀{B:Int}{t:J},av B n k t→av (B+4194304) n k (t.tidy c).2:=fun{B t} gt=>by
  unfold J.tidy
  split
  ·exact gt.mono (by omega)
  ·exact(av.AB _ c _ _ 0 gt).mono (by have:=(gt.im pa pb).n;omega)
 unfold J.bg
 split
 ·exact g.mono (by omega)
 ·split
  ·have gb:=g.vV c 1
   split
   ·exact(ht gb).mono (by omega)
   ·exact gb.mono (by omega)
  ·exact(ht g).mono (by omega)
theorem av.dx{B:Int}{n k:Nat}{s:J}(g:av B n k s){c:Nat}(pa:aC n k 0 c)(pb:aC n k c c)(o:dg)(ho:fE o):av (B+300000000000) n k (dx s c o).2:=by
 unfold Go.Proofs.YtpbpiehcchannaaGreatDoor.dx
 repeat' split
 ·exact g.mono (by omega)
 ·exact g.set pa pb o.key o.val
 ·exact(g.del c o.key).mono (by omega)
 ·exact g.mono (by omega)
 ·exact g.mono (by omega)
 ·exact(g.arm o.n o.p ho.n ho.p).mono (by omega)
 ·exact g.on.mono (by omega)
 ·exact g.mono (by omega)
theorem av.dy{B:Int}{n k:Nat}{s:J}(g:av B n k s)(o:dg)(ho:fE o):av (B+300000000000) n k (dy s o).2:=by
 unfold Go.Proofs.YtpbpiehcchannaaGreatDoor.dy
 repeat' split
 ·exact(g.arm o.n o.p ho.n ho.p).mono (by omega)
 ·exact g.on.mono (by omega)
 ·exact g.mono (by omega)
 ·exact g.mono (by omega)
structure fu(t:Td):Prop where
 b:t.b.length≤65536
 l:∀r∈t.l,r.length≤65536
 n:t.l.length≤4194304
theorem fu.nil(n:Int)(is:Bool)(e:Int):fu ⟨[],[],n,is,e⟩:=⟨Nat.zero_le _,by simp,Nat.zero_le _⟩
theorem NX{B:Int}{n k:Nat}{s:J}(g:av B n k s){c:Nat}(pa:aC n k 0 c)(pb:aC n k c c)(o:dg):fu (dx s c o).1:=by
 have cM:=g.im pa pb
 obtain⟨eP,_⟩:=F1 s c
 have dn:=(dR (s.au c)).length_le
 unfold dx
 repeat' split
 ·unfold J.kd
  repeat' split
  ·exact fu.nil _ _ _
  ·exact fu.nil _ _ _
  ·rename_i h1 h2
   exact⟨(eP _ ((dR (s.au c)).subset (F2 h2).1)).2,by simp,Nat.zero_le _⟩
 ·exact fu.nil _ _ _
 ·exact fu.nil _ _ _
 ·unfold J.me
  split
  ·exact fu.nil _ _ _
  ·refine⟨Nat.zero_le _,fun r hr=> ?_,?_⟩
   ·obtain⟨d,hd,rfl⟩:=List.mem_map.1 ((List.mergeSort_perm _ _).mem_iff.1 hr)
    have:=(eP _ ((dR (s.au c)).subset hd)).1
    omega
   ·show(jk (gQ (s.au c))).length≤_
    have:=cM.n
    unfold gQ
    rw[tc,List.length_map];omega
 ·exact fu.nil _ _ _
 ·exact fu.nil _ _ _
 ·exact fu.nil _ _ _
 ·exact fu.nil _ _ _
theorem NY(s:J)(o:dg):fu (dy s o).1:=by
 unfold dy
 repeat' split
 all_goals exact fu.nil _ _ _
theorem ng(t:Td)(h:fu t):Spec Tryz.prog 35 [.agg [.bs 0 t.b,.sl 0 1 (fun k:List UInt8=>[AV.bs 0 k]) [] t.l,.val (.int .i64 t.n),.val (.bool t.is),.val (.int .i64 t.e)],.agg [.bs 0 t.b,.sl 0 1 (fun k:List UInt8=>[AV.bs 0 k]) [] t.l,.val (.int .i64 t.n),.val (.bool t.is),.val (.int .i64 t.e)]] [] (ak (.val (.bool true)) [] []):=by
 obtain⟨b,l,n,is,e⟩:=t
 have hb:=h.b
 have hl:=h.l
 have hn:=h.n
 simp only at hb hl hn⊢
 refine aq aj Tryz.func35 rfl Tryz.ntmps35 Tryz.results35 ?_;refine I ?_
 conv=>whnf
 refine bD (hA:=fun hG=>⟨trivial,hG,hG,trivial⟩) (k:=?_);refine ae (eh 0 0 b b (by omega)) call19 0 [] [] [] ?_;rw[decide_eq_true (rfl:b=b)];refine I ?_;rw[show(!decide (e=e)|| !decide (n=n)|| !is==is|| !true)=false by cases is<;>simp];refine I ?_;refine ae (Lf 0 0 l l (fun r hr=>by have:=hl r hr;omega) (by omega)) call73 0 [] [] [] ?_;rw[decide_eq_true (rfl:l=l)];refine I ?_;exact⟨_,rfl,rfl,trivial⟩
theorem NZ(x y:Nat)(h1:1≤x∧x≤64)(h2:16≤y∧y≤65536):Spec Tryz.prog 33 [.val (.int .i64 (x:Int)),.val (.int .i64 (y:Int))] [] (ak (.al [.ref 25 1 7 0 0,.val (.int .i64 0)]) [] [(25,⟨1,.obj [.own 39 (x*y+1) 1 0 (J.new x y).l.length,.val (.int .i64 (x:Int)),.val (.int .i64 ((J.new x y).k:Int)),.val (.int .i64 (J.new x y).ar),.val (.int .i64 (J.new x y).pt),.val (.bool (J.new x y).dd),.val (.int .i64 (J.new x y).wr)]⟩),(39,⟨x*y+1,.bytes (J.new x y).l⟩)]):=by
 have h:=MG x y h1 h2
 have e:(J.new x y).l.length=x*y:=by simp[J.new]
 rw[e];exact h
structure PY where
 i:Nat
 pr:Bool
 s:J
 vs:Nat
 va:Nat
 vb:Nat
 ws:Nat
 wa:Nat
 wb:Nat
theorem F5{W:Int}{n k:Nat}(s:J)(c:Nat)(g:av W n k s)(pa:aC n k 0 c)(hn:n=2*c*k)(hd:s.dd=true)(v0 v1:Nat):Spec Tryz.prog 17 [.ref 0 v0 6 0 0] [⟨v0,.obj [.own 1 v1 1 0 s.l.length,.val (.int .i64 (s.k:Int)),.val (.int .i64 s.ar),.val (.int .i64 s.pt),.val (.bool s.dd),.val (.int .i64 s.wr)]⟩,⟨v1,.bytes s.l⟩] (ak (.al [.val (.pointer none),.val (.int .i64 6)]) [⟨v0,.obj [.own 1 v1 1 0 s.l.length,.val (.int .i64 (s.k:Int)),.val (.int .i64 s.ar),.val (.int .i64 s.pt),.val (.bool s.dd),.val (.int .i64 s.wr)]⟩,⟨v1,.bytes s.l⟩] []):=by
 have cC:=g.kk
 have eA:=g.l
 have cu:=g.k
 have hlen:=g.len
 have rv:(s.l.length:Int)/(s.k:Int)=2*(c:Int):=by
  rw[eA,cu,hn,Nat.mul_assoc,Nat.mul_comm c k,←Nat.mul_assoc,Nat.mul_comm 2 k,Nat.mul_assoc];rw[Int.natCast_mul,Int.mul_ediv_cancel_left _ (by omega)]
  omega
 have kh:=s7 s (by omega) ⟨by omega,by omega⟩ v0 v1
 rw[rv] at kh
 have eO:=pa.fa
 have kJ:c≤4194304:=pa.ac.2
 have cq:(c:Int)*(s.k:Int)=((c*k:Nat):Int):=by rw[cu];simp
 have fy:=pa.fit
 refine aq aj Tryz.func17 rfl Tryz.ntmps17 Tryz.results17 ?_;refine I ?_;refine aP (kh) call66 [0,1] ?_;refine I ?_;rw[show(2*(c:Int))/2=(c:Int) by omega];refine aP (kh) call66 [0,1] ?_;refine I ?_;rw[show(2*(c:Int))%2=0 by omega];refine I ?_;refine bD (k:=?_);refine aP (pz s v0 v1) call67 [0,1] ?_;refine I ?_;rw[decide_eq_false (by omega:¬(c:Int)*(s.k:Int)<64)];refine⟨fun h=>absurd h (by simp),fun _=> ?_⟩;refine I ?_;refine aP (sY s true hd v0 v1) call31 [0,1] ?_;refine I ?_;exact⟨_,rfl,rfl,trivial⟩
theorem LG(a b:Int)(ha:aG a)(hb:aG b)(l:List dg)(ho:∀o∈l,fE o):Spec Tryz.prog 6 [.val (.int .i64 a),.val (.int .i64 b),.sl 0 5 (aN 0) lj l] [] (ak (.val (.bool true)) [] []):=by
 refine aq aj Tryz.func6 rfl Tryz.ntmps6 Tryz.results6 ?_;refine I ?_;refine ae (Lh 0 a b l) call12 (hon:=⟨trivial,trivial,fun _=>⟨trivial,trivial,trivial,trivial,trivial,trivial⟩,trivial⟩) 0 [] [] [] ?_
 by_cases hv:n3 a b l=true
 ·rw[hv]
  refine I ?_
  (
 refine ae (v7) call13 0 [] [] [] ?_;refine I ?_;exact⟨_,rfl,rfl,trivial⟩)
 have jS:n3 a b l=false:=by simpa using hv
 rw[jS]
 have hn:l.length≤80∧a≤8∧b≤1024:=by
  unfold n3 at jS
  rw[Bool.or_eq_false_iff,decide_eq_false_iff_not] at jS
  omega
 clear hv jS
 refine I ?_
 by_cases F6:1≤a∧a≤64∧16≤b∧b≤65536
 case neg=>
  refine ae (Kx a b ha hb F6) call26 0 [] [] [] ?_;refine I ?_;refine ae (MF a b ha hb F6) call33 0 [] [] [] ?_;refine I ?_
  (
 refine ae (v7) call13 0 [] [] [] ?_;refine I ?_;exact⟨_,rfl,rfl,trivial⟩)
 obtain⟨x,rfl⟩:∃x:Nat,a=(x:Int):=⟨a.toNat,by omega⟩
 obtain⟨y,rfl⟩:∃y:Nat,b=(y:Int):=⟨b.toNat,by omega⟩
 have g0:av 0 (x*y) y (J.new x y):=av.new x y (by omega) (by omega)
 have hN:=Ef x y (by omega) (by omega)
 have hM:=NZ x y (by omega) (by omega)
 generalize J.new x y=S at hN hM g0
 obtain⟨c,hc⟩:∃c,c=x/2:=⟨_,rfl⟩
 have F7:¬(x%2=1∨c*y<64)→x=2*c∧aC (x*y) y 0 c∧aC (x*y) y c c∧c*y≤4096:=by
  intro hq
  have eU:x=2*c:=by omega
  have dz:1≤c:=by
   rcases Nat.eq_zero_or_pos c with q | q
   ·rw[q] at hq;omega
   ·exact q
  refine⟨eU,?_,?_,?_⟩
  ·rw[eU];exact My dz (by omega) (by omega)
  ·rw[eU];exact Mz dz (by omega) (by omega)
  ·exact Nat.le_trans (Nat.mul_le_mul (show c≤4 by omega) (show y≤1024 by omega)) (by decide)
 refine ae (hN) call26 0 [0,0,0,0,0,0,0,0,0,0,0,0,0,0,0,0,0,0,0,0,0,0,0,0,24,0,0,23] [0,0,0,0,0,0,0,0,0,0,0,0,0,0,0,0,0,0,0,0,0,0,0,0,1,0,0,1] [27,24] ?_;refine I ?_;refine ae (hM) call33 0 [0,0,0,0,0,0,0,0,0,0,0,0,0,0,0,0,0,0,0,0,0,0,0,0,0,33,0,0,0,0,0,0,0,0,0,0,0,0,0,34] [0,0,0,0,0,0,0,0,0,0,0,0,0,0,0,0,0,0,0,0,0,0,0,0,0,1,0,0,0,0,0,0,0,0,0,0,0,0,0,1] [25,39] ?_;refine I ?_
 (refine ax (k:=?_))
 conv=>whnf
 refine bh (fun z:PY=>z.i≤l.length∧av (z.i*300000000000) (x*y) y z.s∧(z.pr=true→¬(x%2=1∨c*y<64))) (fun z=>l.length - z.i) 0 [6,11,12,13,14,15,16,17,18,42,43,44,45,46,47,48,49,50,51,52,53,54,55,56,57,58,59,60,61,62,63,64,65,66,67,68,69,70,71,72,73,74,75,76,77,78,79,80,81,82,83,84,85,86,87,88,89,90,91,92,93,94,95,96,97,98,99]
  (fun z=>match z.pr with
   | true=>[(11,.ref 20 z.vs 3 0 0),(12,.ref 30 z.ws 3 0 0),(13,.val (.int .i64 (z.i:Int)))]
   | false=>[(11,.val (.pointer none)),(12,.val (.pointer none)),(13,.val (.int .i64 (z.i:Int)))])
  (fun z=>match z.pr with
   | true=>[(20,⟨z.vs,.obj [.ref 23 2 6 0 0,.ref 21 z.va 3 0 0,.ref 22 z.vb 3 0 0]⟩),(21,⟨z.va,.obj [.ref 23 2 6 0 0,.val (.int .i64 ((0:Nat):Int)),.val (.int .i64 (c:Int))]⟩),(22,⟨z.vb,.obj [.ref 23 2 6 0 0,.val (.int .i64 (c:Int)),.val (.int .i64 (c:Int))]⟩),(23,⟨2,.obj [.own 24 3 1 0 z.s.l.length,.val (.int .i64 (z.s.k:Int)),.val (.int .i64 z.s.ar),.val (.int .i64 z.s.pt),.val (.bool z.s.dd),.val (.int .i64 z.s.wr)]⟩),(24,⟨3,.bytes z.s.l⟩),
       (30,⟨z.ws,.obj [.ref 33 2 7 0 0,.ref 31 z.wa 3 0 0,.ref 32 z.wb 3 0 0]⟩),(31,⟨z.wa,.obj [.ref 33 2 7 0 0,.val (.int .i64 ((0:Nat):Int)),.val (.int .i64 (c:Int))]⟩),(32,⟨z.wb,.obj [.ref 33 2 7 0 0,.val (.int .i64 (c:Int)),.val (.int .i64 (c:Int))]⟩),(33,⟨2,.obj [.own 34 (x*y+1+1) 1 0 z.s.l.length,.val (.int .i64 (x:Int)),.val (.int .i64 (z.s.k:Int)),.val (.int .i64 z.s.ar),.val (.int .i64 z.s.pt),.val (.bool z.s.dd),.val (.int .i64 z.s.wr)]⟩),(34,⟨x*y+1+1,.bytes z.s.l⟩)]
   | false=>[(20,⟨z.vs,.dead⟩),(21,⟨z.va,.dead⟩),(22,⟨z.vb,.dead⟩),(23,⟨2,.obj [.own 24 3 1 0 z.s.l.length,.val (.int .i64 (z.s.k:Int)),.val (.int .i64 z.s.ar),.val (.int .i64 z.s.pt),.val (.bool z.s.dd),.val (.int .i64 z.s.wr)]⟩),(24,⟨3,.bytes z.s.l⟩),(30,⟨z.ws,.dead⟩),(31,⟨z.wa,.dead⟩),(32,⟨z.wb,.dead⟩),(33,⟨2,.obj [.own 34 (x*y+1+1) 1 0 z.s.l.length,.val (.int .i64 (x:Int)),.val (.int .i64 (z.s.k:Int)),.val (.int .i64 z.s.ar),.val (.int .i64 z.s.pt),.val (.bool z.s.dd),.val (.int .i64 z.s.wr)]⟩),(34,⟨x*y+1+1,.bytes z.s.l⟩)])
  ⟨0,false,S,0,0,0,0,0,0⟩ ⟨Nat.zero_le _,by simpa using g0,fun h=>by cases h⟩ ?_ ?_ ?_
 ·exact no_implicit_lambda%ten
 ·exact no_implicit_lambda%az
 ·rintro⟨i,pr,s,vs,va,vb,ws,wa,wb⟩ v ⟨i1,i2,i3⟩
  simp only at i1 i2 i3
  have dn:=i2.l
  have BA:=i2.len
  have AD:s.l.length=x*s.k:=by rw[i2.l,i2.k]
  cases pr with
  | true=>
   dsimp only
   refine bc (k:=?_);refine I ?_;refine⟨fun h=> ?_,fun h=> ?_⟩
   ·(
 have ai:i<l.length:=by have:=of_decide_eq_true h;omega
 have QG:l.length - (i+1)<l.length - i:=by omega
 have QH:(i:Int)*300000000000+300000000000≤((i+1:Nat):Int)*300000000000:=by omega
 have gD:fE l[i]:=ho _ (List.getElem_mem ai)
 have dW:l.getD i lj=l[i]:=by rw[List.getD_eq_getElem?_getD,List.getElem?_eq_getElem ai];rfl
 generalize l[i]=o at gD dW
 refine I ?_;simp only[Int.toNat_natCast,dW])
    obtain⟨eU,pa,pb,AA⟩:=F7 (i3 rfl)
    by_cases hK:o.K=0
    ·(
 have gE:x*y=2*c*y:=by rw[eU]
 by_cases hd:s.dd=true
 ·have eD:=tF s s 6 o gD hK 2 3 (F5 s c i2 pa gE hd 2 3) (.ref 0 vs 3 0 0) (.obj [.ref 3 2 6 0 0,.ref 1 va 3 0 0,.ref 2 vb 3 0 0]) (.obj [.ref 3 2 6 0 0,.val (.int .i64 ((0:Nat):Int)),.val (.int .i64 (c:Int))]) (.obj [.ref 3 2 6 0 0,.val (.int .i64 (c:Int)),.val (.int .i64 (c:Int))]) vs va vb
  have eE:=tG (X:=x) s s 6 o hK 2 (x*y+1+1) (F8 s c i2 pa eU hd 2 (x*y+1+1)) (.ref 0 ws 3 0 0) (.obj [.ref 3 2 7 0 0,.ref 1 wa 3 0 0,.ref 2 wb 3 0 0]) (.obj [.ref 3 2 7 0 0,.val (.int .i64 ((0:Nat):Int)),.val (.int .i64 (c:Int))]) (.obj [.ref 3 2 7 0 0,.val (.int .i64 (c:Int)),.val (.int .i64 (c:Int))]) ws wa wb
  have dS:=i2.mono (show((i:Nat):Int)*300000000000≤i*300000000000+300000000000 by omega)
  (
 (
 refine ae eD call28 5 [20,21,22,23,24] [0,0,0,0,0] [] ?_;refine I ?_
 (
 simp only[Int.toNat_natCast,dW])
 refine ae eE call34 5 [30,31,32,33,34] [0,0,0,0,0] [] ?_;refine I ?_
 (
 (refine ax (k:=?_))
 refine And.intro (fun _=>⟨by trivial,rfl,rfl,QF rfl⟩) ⟨rfl,?_⟩;refine I ?_)
 (
 (refine ax (k:=?_))
 refine And.intro (fun _=>⟨by trivial,rfl,rfl,QF rfl⟩) ⟨rfl,?_⟩;refine I ?_)
 refine bD (k:=?_);refine ae (ng ⟨[],[],0,false,6⟩ (fu.nil 0 false 6)) call35 0 [] [] [] ?_;refine I ?_
 (refine ax (k:=?_)))
 (
 (
 conv=>whnf
 refine bD (hA:=fun _=>⟨trivial,by trivial,trivial⟩) (k:=?_))
 refine ae (rA) call27 0 [] [] [] ?_;refine I ?_
 (
 conv=>whnf
 refine bD (hA:=fun _=>⟨trivial,by trivial,trivial⟩) (k:=?_))
 refine ae (rB) call36 0 [] [] [] ?_)
 (
 refine I ?_
 (
 conv=>whnf
 refine bD (hA:=fun _=>⟨trivial,by trivial,trivial⟩) (k:=?_))
 refine aP (mP s 2 3) call15 [23,24] ?_;refine I ?_
 (
 conv=>whnf
 refine bD (hA:=fun _=>⟨trivial,by trivial,trivial⟩) (k:=?_))
 refine ae (mW s x 2 (x*y+1+1)) call37 2 [33,34] [0,0] [] ?_;refine I ?_)
 refine aM ⟨i+1,false,s,vs,va,vb,ws,wa,wb⟩ ⟨ai,dS.mono QH,fun h=>by cases h⟩ QG ?_ ?_
 ·exact no_implicit_lambda%ten
 ·exact no_implicit_lambda%az)
 have hd:s.dd=false:=by simpa using hd
 have dS:=(i2.F4 pa pb).mono (show((i:Nat):Int)*300000000000+20000000≤i*300000000000+300000000000 by omega)
 by_cases h0:(s.bg c).1=0
 ·have eD:=F3 s c i2 (by omega) pa pb gE hd h0 o gD hK (.ref 0 vs 3 0 0) (.obj [.ref 3 2 6 0 0,.ref 1 va 3 0 0,.ref 2 vb 3 0 0]) (.obj [.ref 3 2 6 0 0,.val (.int .i64 ((0:Nat):Int)),.val (.int .i64 (c:Int))]) (.obj [.ref 3 2 6 0 0,.val (.int .i64 (c:Int)),.val (.int .i64 (c:Int))]) vs va vb 2 3
  have eE:=F9 (X:=x) s c i2 (by omega) pa pb eU gE hd h0 o hK (.ref 0 ws 3 0 0) (.obj [.ref 3 2 7 0 0,.ref 1 wa 3 0 0,.ref 2 wb 3 0 0]) (.obj [.ref 3 2 7 0 0,.val (.int .i64 ((0:Nat):Int)),.val (.int .i64 (c:Int))]) (.obj [.ref 3 2 7 0 0,.val (.int .i64 (c:Int)),.val (.int .i64 (c:Int))]) ws wa wb 2 (x*y+1+1)
  generalize s.bg c=T at eD eE dS
  (
 refine ae eD call28 5 [20,21,22,23,24] [0,0,0,0,0] [] ?_;refine I ?_
 (
 simp only[Int.toNat_natCast,dW])
 refine ae eE call34 5 [30,31,32,33,34] [0,0,0,0,0] [] ?_;refine I ?_
 (
 (refine ax (k:=?_))
 refine And.intro (fun _=>⟨by trivial,rfl,rfl,QF rfl⟩) ⟨rfl,?_⟩;refine I ?_)
 (
 (refine ax (k:=?_))
 refine And.intro (fun _=>⟨by trivial,rfl,rfl,QF rfl⟩) ⟨rfl,?_⟩;refine I ?_)
 refine bD (k:=?_);refine ae (ng ⟨[],[],0,false,0⟩ (fu.nil 0 false 0)) call35 0 [] [] [] ?_;refine I ?_
 (refine ax (k:=?_)))
  (
 (
 conv=>whnf
 refine bD (hA:=fun _=>⟨trivial,by trivial,trivial⟩) (k:=?_))
 refine ae (od T.2 c dS pa (1+(vs+1)) (2+(va+1)) (2+(vb+1)) 2 3) call27 5 [20,21,22,23,24] [0,0,0,0,0] [] ?_;refine I ?_
 (
 conv=>whnf
 refine bD (hA:=fun _=>⟨trivial,by trivial,trivial⟩) (k:=?_))
 refine ae (tw (X:=x) T.2 c dS pa (1+(ws+1)) (2+(wa+1)) (2+(wb+1)) 2 (x*y+1+1)) call36 5 [30,31,32,33,34] [0,0,0,0,0] [] ?_)
  (
 refine I ?_
 (
 conv=>whnf
 refine bD (hA:=fun _=>⟨trivial,by trivial,trivial⟩) (k:=?_))
 refine aP (mP T.2 2 3) call15 [23,24] ?_;refine I ?_
 (
 conv=>whnf
 refine bD (hA:=fun _=>⟨trivial,by trivial,trivial⟩) (k:=?_))
 refine ae (mW T.2 x 2 (x*y+1+1)) call37 2 [33,34] [0,0] [] ?_;refine I ?_)
  refine aM ⟨i+1,true,T.2,1+(vs+1),2+(va+1),2+(vb+1),1+(ws+1),2+(wa+1),2+(wb+1)⟩ ⟨ai,dS.mono QH,fun _=>(i3 rfl)⟩ QG ?_ ?_
  ·exact no_implicit_lambda%ten
  ·exact no_implicit_lambda%az
 ·have eD:=tF s (s.bg c).2 (s.bg c).1 o gD hK 2 3 (jZ (v8 s c i2 (by omega) pa pb gE hd 2 3) fun X H q=>q.2 h0) (.ref 0 vs 3 0 0) (.obj [.ref 3 2 6 0 0,.ref 1 va 3 0 0,.ref 2 vb 3 0 0]) (.obj [.ref 3 2 6 0 0,.val (.int .i64 ((0:Nat):Int)),.val (.int .i64 (c:Int))]) (.obj [.ref 3 2 6 0 0,.val (.int .i64 (c:Int)),.val (.int .i64 (c:Int))]) vs va vb
  have eE:=tG (X:=x) s (s.bg c).2 (s.bg c).1 o hK 2 (x*y+1+1) (jZ (AE (X:=x) s c i2 (by omega) pa pb eU gE hd 2 (x*y+1+1)) fun X H q=>q.2 h0) (.ref 0 ws 3 0 0) (.obj [.ref 3 2 7 0 0,.ref 1 wa 3 0 0,.ref 2 wb 3 0 0]) (.obj [.ref 3 2 7 0 0,.val (.int .i64 ((0:Nat):Int)),.val (.int .i64 (c:Int))]) (.obj [.ref 3 2 7 0 0,.val (.int .i64 (c:Int)),.val (.int .i64 (c:Int))]) ws wa wb
  generalize s.bg c=T at eD eE dS
  (
 (
 refine ae eD call28 5 [20,21,22,23,24] [0,0,0,0,0] [] ?_;refine I ?_
 (
 simp only[Int.toNat_natCast,dW])
 refine ae eE call34 5 [30,31,32,33,34] [0,0,0,0,0] [] ?_;refine I ?_
 (
 (refine ax (k:=?_))
 refine And.intro (fun _=>⟨by trivial,rfl,rfl,QF rfl⟩) ⟨rfl,?_⟩;refine I ?_)
 (
 (refine ax (k:=?_))
 refine And.intro (fun _=>⟨by trivial,rfl,rfl,QF rfl⟩) ⟨rfl,?_⟩;refine I ?_)
 refine bD (k:=?_);refine ae (ng ⟨[],[],0,false,T.1⟩ (fu.nil 0 false T.1)) call35 0 [] [] [] ?_;refine I ?_
 (refine ax (k:=?_)))
 (
 (
 conv=>whnf
 refine bD (hA:=fun _=>⟨trivial,by trivial,trivial⟩) (k:=?_))
 refine ae (rA) call27 0 [] [] [] ?_;refine I ?_
 (
 conv=>whnf
 refine bD (hA:=fun _=>⟨trivial,by trivial,trivial⟩) (k:=?_))
 refine ae (rB) call36 0 [] [] [] ?_)
 (
 refine I ?_
 (
 conv=>whnf
 refine bD (hA:=fun _=>⟨trivial,by trivial,trivial⟩) (k:=?_))
 refine aP (mP T.2 2 3) call15 [23,24] ?_;refine I ?_
 (
 conv=>whnf
 refine bD (hA:=fun _=>⟨trivial,by trivial,trivial⟩) (k:=?_))
 refine ae (mW T.2 x 2 (x*y+1+1)) call37 2 [33,34] [0,0] [] ?_;refine I ?_)
 refine aM ⟨i+1,false,T.2,vs,va,vb,ws,wa,wb⟩ ⟨ai,dS.mono QH,fun h=>by cases h⟩ QG ?_ ?_
 ·exact no_implicit_lambda%ten
 ·exact no_implicit_lambda% az))
    ·have hT:=NX i2 pa pb o
     have dS:=i2.dx pa pb o gD
     have eD:=NV s c i2 (by omega) pa pb AA o gD hK vs va vb 2 3
     have eE:=N0 (X:=x) s c i2 (by omega) AD pa pb o gD hK ws wa wb 2 (x*y+1+1)
     generalize dx s c o=A at hT dS eD eE
     obtain⟨t,s2⟩:=A
     simp only at hT dS eD eE
     (
 refine ae eD call28 5 [20,21,22,23,24] [0,0,0,0,0] [] ?_;refine I ?_
 (
 simp only[Int.toNat_natCast,dW])
 refine ae eE call34 5 [30,31,32,33,34] [0,0,0,0,0] [] ?_;refine I ?_
 (
 (refine ax (k:=?_))
 refine And.intro (fun _=>⟨by trivial,rfl,rfl,QF rfl⟩) ⟨rfl,?_⟩;refine I ?_)
 (
 (refine ax (k:=?_))
 refine And.intro (fun _=>⟨by trivial,rfl,rfl,QF rfl⟩) ⟨rfl,?_⟩;refine I ?_)
 refine bD (k:=?_);refine ae (ng t hT) call35 0 [] [] [] ?_;refine I ?_
 (refine ax (k := ?_)))
     (
 (
 conv=>whnf
 refine bD (hA:=fun _=>⟨trivial,by trivial,trivial⟩) (k:=?_))
 refine ae (od s2 c dS pa vs va vb 2 3) call27 5 [20,21,22,23,24] [0,0,0,0,0] [] ?_;refine I ?_
 (
 conv=>whnf
 refine bD (hA:=fun _=>⟨trivial,by trivial,trivial⟩) (k:=?_))
 refine ae (tw (X := x) s2 c dS pa ws wa wb 2 (x * y + 1 + 1)) call36 5 [30, 31, 32, 33, 34] [0, 0, 0, 0, 0] [] ?_)
     (
 refine I ?_
 (
 conv=>whnf
 refine bD (hA:=fun _=>⟨trivial,by trivial,trivial⟩) (k:=?_))
 refine aP (mP s2 2 3) call15 [23,24] ?_;refine I ?_
 (
 conv=>whnf
 refine bD (hA:=fun _=>⟨trivial,by trivial,trivial⟩) (k:=?_))
 refine ae (mW s2 x 2 (x*y+1+1)) call37 2 [33,34] [0,0] [] ?_;refine gg (k := ?_))
     refine aM ⟨i+1,true,s2,vs,va,vb,ws,wa,wb⟩ ⟨ai,dS.mono QH,fun _=>i3 rfl⟩ QG ?_ ?_
     ·exact no_implicit_lambda%ten
     ·exact no_implicit_lambda%az
   ·(
 obtain rfl:i=l.length:=by have:=of_decide_eq_false h;omega
 refine I ?_;refine ae (F0 s (by omega) 2 3) call16 2 [23,24] [0,0] [] ?_;refine I ?_;refine ae (Fm s (by omega) x 2 (x*y+1+1)) call38 2 [33,34] [0,0] [] ?_;refine I ?_;refine ae (eh 0 0 s.l s.l (by omega)) call19 0 [] [] [] ?_;rw[decide_eq_true (rfl:s.l=s.l)];refine I ?_;refine ae (v7) call13 0 [] [] [] ?_;refine I ?_;refine⟨_,?_,rfl,trivial⟩
 simp[jw])
  | false=>
   dsimp only
   refine bc (k:=?_);refine I ?_;refine⟨fun h=> ?_,fun h=> ?_⟩
   ·(
 have ai:i<l.length:=by have:=of_decide_eq_true h;omega
 have QG:l.length - (i+1)<l.length - i:=by omega
 have QH:(i:Int)*300000000000+300000000000≤((i+1:Nat):Int)*300000000000:=by omega
 have gD:fE l[i]:=ho _ (List.getElem_mem ai)
 have dW:l.getD i lj=l[i]:=by rw[List.getD_eq_getElem?_getD,List.getElem?_eq_getElem ai];rfl
 generalize l[i]=o at gD dW
 refine I ?_;simp only[Int.toNat_natCast,dW])
    by_cases hK:o.K=0
    ·by_cases fg:x%2=1∨c*y<64
     ·have eD:=tF s s 1 o gD hK 2 3 (NO s i2 x rfl (by rw[←hc];exact fg) 2 3) (.val (.pointer none)) .dead .dead .dead vs va vb
      have eE:=tG (X:=x) s s 1 o hK 2 (x*y+1+1) (N1 s i2 x rfl (by rw[←hc];exact fg) 2 (x*y+1+1)) (.val (.pointer none)) .dead .dead .dead ws wa wb
      have dS:=i2.mono (show((i:Nat):Int)*300000000000≤i*300000000000+300000000000 by omega)
      (
 (
 refine ae eD call28 5 [20,21,22,23,24] [0,0,0,0,0] [] ?_;refine I ?_
 (
 simp only[Int.toNat_natCast,dW])
 refine ae eE call34 5 [30,31,32,33,34] [0,0,0,0,0] [] ?_;refine I ?_
 (
 (refine ax (k:=?_))
 refine And.intro (fun _=>⟨by trivial,rfl,rfl,QF rfl⟩) ⟨rfl,?_⟩;refine I ?_)
 (
 (refine ax (k:=?_))
 refine And.intro (fun _=>⟨by trivial,rfl,rfl,QF rfl⟩) ⟨rfl,?_⟩;refine I ?_)
 refine bD (k:=?_);refine ae (ng ⟨[],[],0,false,1⟩ (fu.nil 0 false 1)) call35 0 [] [] [] ?_;refine I ?_
 (refine ax (k:=?_)))
 (
 (
 conv=>whnf
 refine bD (hA:=fun _=>⟨trivial,by trivial,trivial⟩) (k:=?_))
 refine ae (rA) call27 0 [] [] [] ?_;refine I ?_
 (
 conv=>whnf
 refine bD (hA:=fun _=>⟨trivial,by trivial,trivial⟩) (k:=?_))
 refine ae (rB) call36 0 [] [] [] ?_)
 (
 refine I ?_
 (
 conv=>whnf
 refine bD (hA:=fun _=>⟨trivial,by trivial,trivial⟩) (k:=?_))
 refine aP (mP s 2 3) call15 [23,24] ?_;refine I ?_
 (
 conv=>whnf
 refine bD (hA:=fun _=>⟨trivial,by trivial,trivial⟩) (k:=?_))
 refine ae (mW s x 2 (x*y+1+1)) call37 2 [33,34] [0,0] [] ?_;refine I ?_)
 refine aM ⟨i+1,false,s,vs,va,vb,ws,wa,wb⟩ ⟨ai,dS.mono QH,fun h=>by cases h⟩ QG ?_ ?_
 ·exact no_implicit_lambda%ten
 ·exact no_implicit_lambda% az)
     ·obtain⟨eU,pa,pb,AA⟩:=F7 fg
      (
 have gE:x*y=2*c*y:=by rw[eU]
 by_cases hd:s.dd=true
 ·have eD:=tF s s 6 o gD hK 2 3 (F5 s c i2 pa gE hd 2 3) (.val (.pointer none)) .dead .dead .dead vs va vb
  have eE:=tG (X:=x) s s 6 o hK 2 (x*y+1+1) (F8 s c i2 pa eU hd 2 (x*y+1+1)) (.val (.pointer none)) .dead .dead .dead ws wa wb
  have dS:=i2.mono (show((i:Nat):Int)*300000000000≤i*300000000000+300000000000 by omega)
  (
 (
 refine ae eD call28 5 [20,21,22,23,24] [0,0,0,0,0] [] ?_;refine I ?_
 (
 simp only[Int.toNat_natCast,dW])
 refine ae eE call34 5 [30,31,32,33,34] [0,0,0,0,0] [] ?_;refine I ?_
 (
 (refine ax (k:=?_))
 refine And.intro (fun _=>⟨by trivial,rfl,rfl,QF rfl⟩) ⟨rfl,?_⟩;refine I ?_)
 (
 (refine ax (k:=?_))
 refine And.intro (fun _=>⟨by trivial,rfl,rfl,QF rfl⟩) ⟨rfl,?_⟩;refine I ?_)
 refine bD (k:=?_);refine ae (ng ⟨[],[],0,false,6⟩ (fu.nil 0 false 6)) call35 0 [] [] [] ?_;refine I ?_
 (refine ax (k:=?_)))
 (
 (
 conv=>whnf
 refine bD (hA:=fun _=>⟨trivial,by trivial,trivial⟩) (k:=?_))
 refine ae (rA) call27 0 [] [] [] ?_;refine I ?_
 (
 conv=>whnf
 refine bD (hA:=fun _=>⟨trivial,by trivial,trivial⟩) (k:=?_))
 refine ae (rB) call36 0 [] [] [] ?_)
 (
 refine I ?_
 (
 conv=>whnf
 refine bD (hA:=fun _=>⟨trivial,by trivial,trivial⟩) (k:=?_))
 refine aP (mP s 2 3) call15 [23,24] ?_;refine I ?_
 (
 conv=>whnf
 refine bD (hA:=fun _=>⟨trivial,by trivial,trivial⟩) (k:=?_))
 refine ae (mW s x 2 (x*y+1+1)) call37 2 [33,34] [0,0] [] ?_;refine I ?_)
 refine aM ⟨i+1,false,s,vs,va,vb,ws,wa,wb⟩ ⟨ai,dS.mono QH,fun h=>by cases h⟩ QG ?_ ?_
 ·exact no_implicit_lambda%ten
 ·exact no_implicit_lambda%az)
 have hd:s.dd=false:=by simpa using hd
 have dS:=(i2.F4 pa pb).mono (show((i:Nat):Int)*300000000000+20000000≤i*300000000000+300000000000 by omega)
 by_cases h0:(s.bg c).1=0
 ·have eD:=F3 s c i2 (by omega) pa pb gE hd h0 o gD hK (.val (.pointer none)) .dead .dead .dead vs va vb 2 3
  have eE:=F9 (X:=x) s c i2 (by omega) pa pb eU gE hd h0 o hK (.val (.pointer none)) .dead .dead .dead ws wa wb 2 (x*y+1+1)
  generalize s.bg c=T at eD eE dS
  (
 refine ae eD call28 5 [20,21,22,23,24] [0,0,0,0,0] [] ?_;refine I ?_
 (
 simp only[Int.toNat_natCast,dW])
 refine ae eE call34 5 [30,31,32,33,34] [0,0,0,0,0] [] ?_;refine I ?_
 (
 (refine ax (k:=?_))
 refine And.intro (fun _=>⟨by trivial,rfl,rfl,QF rfl⟩) ⟨rfl,?_⟩;refine I ?_)
 (
 (refine ax (k:=?_))
 refine And.intro (fun _=>⟨by trivial,rfl,rfl,QF rfl⟩) ⟨rfl,?_⟩;refine I ?_)
 refine bD (k:=?_);refine ae (ng ⟨[],[],0,false,0⟩ (fu.nil 0 false 0)) call35 0 [] [] [] ?_;refine I ?_
 (refine ax (k:=?_)))
  (
 (
 conv=>whnf
 refine bD (hA:=fun _=>⟨trivial,by trivial,trivial⟩) (k:=?_))
 refine ae (od T.2 c dS pa (1+(vs+1)) (2+(va+1)) (2+(vb+1)) 2 3) call27 5 [20,21,22,23,24] [0,0,0,0,0] [] ?_;refine I ?_
 (
 conv=>whnf
 refine bD (hA:=fun _=>⟨trivial,by trivial,trivial⟩) (k:=?_))
 refine ae (tw (X:=x) T.2 c dS pa (1+(ws+1)) (2+(wa+1)) (2+(wb+1)) 2 (x*y+1+1)) call36 5 [30,31,32,33,34] [0,0,0,0,0] [] ?_)
  (
 refine I ?_
 (
 conv=>whnf
 refine bD (hA:=fun _=>⟨trivial,by trivial,trivial⟩) (k:=?_))
 refine aP (mP T.2 2 3) call15 [23,24] ?_;refine I ?_
 (
 conv=>whnf
 refine bD (hA:=fun _=>⟨trivial,by trivial,trivial⟩) (k:=?_))
 refine ae (mW T.2 x 2 (x*y+1+1)) call37 2 [33,34] [0,0] [] ?_;refine I ?_)
  refine aM ⟨i+1,true,T.2,1+(vs+1),2+(va+1),2+(vb+1),1+(ws+1),2+(wa+1),2+(wb+1)⟩ ⟨ai,dS.mono QH,fun _=>fg⟩ QG ?_ ?_
  ·exact no_implicit_lambda%ten
  ·exact no_implicit_lambda%az
 ·have eD:=tF s (s.bg c).2 (s.bg c).1 o gD hK 2 3 (jZ (v8 s c i2 (by omega) pa pb gE hd 2 3) fun X H q=>q.2 h0) (.val (.pointer none)) .dead .dead .dead vs va vb
  have eE:=tG (X:=x) s (s.bg c).2 (s.bg c).1 o hK 2 (x*y+1+1) (jZ (AE (X:=x) s c i2 (by omega) pa pb eU gE hd 2 (x*y+1+1)) fun X H q=>q.2 h0) (.val (.pointer none)) .dead .dead .dead ws wa wb
  generalize s.bg c=T at eD eE dS
  (
 (
 refine ae eD call28 5 [20,21,22,23,24] [0,0,0,0,0] [] ?_;refine I ?_
 (
 simp only[Int.toNat_natCast,dW])
 refine ae eE call34 5 [30,31,32,33,34] [0,0,0,0,0] [] ?_;refine I ?_
 (
 (refine ax (k:=?_))
 refine And.intro (fun _=>⟨by trivial,rfl,rfl,QF rfl⟩) ⟨rfl,?_⟩;refine I ?_)
 (
 (refine ax (k:=?_))
 refine And.intro (fun _=>⟨by trivial,rfl,rfl,QF rfl⟩) ⟨rfl,?_⟩;refine I ?_)
 refine bD (k:=?_);refine ae (ng ⟨[],[],0,false,T.1⟩ (fu.nil 0 false T.1)) call35 0 [] [] [] ?_;refine I ?_
 (refine ax (k:=?_)))
 (
 (
 conv=>whnf
 refine bD (hA:=fun _=>⟨trivial,by trivial,trivial⟩) (k:=?_))
 refine ae (rA) call27 0 [] [] [] ?_;refine I ?_
 (
 conv=>whnf
 refine bD (hA:=fun _=>⟨trivial,by trivial,trivial⟩) (k:=?_))
 refine ae (rB) call36 0 [] [] [] ?_)
 (
 refine I ?_
 (
 conv=>whnf
 refine bD (hA:=fun _=>⟨trivial,by trivial,trivial⟩) (k:=?_))
 refine aP (mP T.2 2 3) call15 [23,24] ?_;refine I ?_
 (
 conv=>whnf
 refine bD (hA:=fun _=>⟨trivial,by trivial,trivial⟩) (k:=?_))
 refine ae (mW T.2 x 2 (x*y+1+1)) call37 2 [33,34] [0,0] [] ?_;refine I ?_)
 refine aM ⟨i+1,false,T.2,vs,va,vb,ws,wa,wb⟩ ⟨ai,dS.mono QH,fun h=>by cases h⟩ QG ?_ ?_
 ·exact no_implicit_lambda%ten
 ·exact no_implicit_lambda% az))
    ·have hT:=NY s o
     have dS:=i2.dy o gD
     have eD:=NW s o gD hK vs va vb 2 3
     have eE:=N2 (X:=x) s o gD hK ws wa wb 2 (x*y+1+1)
     generalize dy s o=A at hT dS eD eE
     obtain⟨t,s2⟩:=A
     simp only at hT dS eD eE
     (
 refine ae eD call28 5 [20,21,22,23,24] [0,0,0,0,0] [] ?_;refine I ?_
 (
 simp only[Int.toNat_natCast,dW])
 refine ae eE call34 5 [30,31,32,33,34] [0,0,0,0,0] [] ?_;refine I ?_
 (
 (refine ax (k:=?_))
 refine And.intro (fun _=>⟨by trivial,rfl,rfl,QF rfl⟩) ⟨rfl,?_⟩;refine I ?_)
 (
 (refine ax (k:=?_))
 refine And.intro (fun _=>⟨by trivial,rfl,rfl,QF rfl⟩) ⟨rfl,?_⟩;refine I ?_)
 refine bD (k:=?_);refine ae (ng t hT) call35 0 [] [] [] ?_;refine I ?_
 (refine ax (k := ?_)))
     (
 (
 conv=>whnf
 refine bD (hA:=fun _=>⟨trivial,by trivial,trivial⟩) (k:=?_))
 refine ae (rA) call27 0 [] [] [] ?_;refine I ?_
 (
 conv=>whnf
 refine bD (hA:=fun _=>⟨trivial,by trivial,trivial⟩) (k:=?_))
 refine ae (rB) call36 0 [] [] [] ?_)
     (
 refine I ?_
 (
 conv=>whnf
 refine bD (hA:=fun _=>⟨trivial,by trivial,trivial⟩) (k:=?_))
 refine aP (mP s2 2 3) call15 [23,24] ?_;refine I ?_
 (
 conv=>whnf
 refine bD (hA:=fun _=>⟨trivial,by trivial,trivial⟩) (k:=?_))
 refine ae (mW s2 x 2 (x*y+1+1)) call37 2 [33,34] [0,0] [] ?_;refine gg (k := ?_))
     refine aM ⟨i+1,false,s2,vs,va,vb,ws,wa,wb⟩ ⟨ai,dS.mono QH,fun h=>by cases h⟩ QG ?_ ?_
     ·exact no_implicit_lambda%ten
     ·exact no_implicit_lambda%az
   ·(
 obtain rfl:i=l.length:=by have:=of_decide_eq_false h;omega
 refine I ?_;refine ae (F0 s (by omega) 2 3) call16 2 [23,24] [0,0] [] ?_;refine I ?_;refine ae (Fm s (by omega) x 2 (x*y+1+1)) call38 2 [33,34] [0,0] [] ?_;refine I ?_;refine ae (eh 0 0 s.l s.l (by omega)) call19 0 [] [] [] ?_;rw[decide_eq_true (rfl:s.l=s.l)];refine I ?_;refine ae (v7) call13 0 [] [] [] ?_;refine I ?_;refine⟨_,?_,rfl,trivial⟩
 simp[jw])
end Go.Proofs.YtpbpiehcchannaaGreatDoor
