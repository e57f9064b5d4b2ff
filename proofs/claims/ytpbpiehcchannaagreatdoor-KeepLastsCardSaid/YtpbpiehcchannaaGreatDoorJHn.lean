/- Records in rows and pools, as slices; what a scan may tell. A store: the bank that counts, its records, the last one of each key, and what is done with it: plain definitions. Walks of nvram: last, counts. Walks of nvram: now's closure, over the records. Conditions: the premises of each law. -/
import Derived.Test.YtpbpiehcchannaaGreatDoorJGp
namespace Go.Proofs.YtpbpiehcchannaaGreatDoor
set_option linter.unusedVariables false
set_option linter.unusedSimpArgs false
set_option maxRecDepth 100000
set_option maxHeartbeats 1500000
open Go.RowKit
theorem PF {rows : List J} {r ver sz n : Nat} {α β : Type} {f : α → List AV} {d : α} {l0 : List α} {g : β → List AV} {d' : β} {ls : List β} (he : bb rows r = some ⟨ver, .row sz f d l0⟩) (hn : n = l0.length) (hl : ls.length = n)
    (iH:∀(i:Nat)(x:α)(y:β),l0[i]? =some x→ls[i]? =some y→uS rows (f x) (g y)):As rows (.own r ver sz 0 n) (.sl 0 sz g d' ls):=fun E E0 w v hr hz h=>by
 rw[cj] at he
 simp only[Go.Proofs.YtpbpiehcchannaaGreatDoor.ae] at h⊢
 obtain⟨a,c,rfl,h2,h3,h4,h5⟩:=h.2 (hr.ver r _ he).symm
 refine⟨a,n,c,rfl,hl.symm,h2,h3,h4,fun i x hx=> ?_⟩
 have hi:=(List.getElem?_eq_some_iff.1 hx).1
 obtain⟨br,rfl,_⟩:=h5.resolve_left (by omega)
 have b9:bN E r ⟨ver,.row sz f d l0⟩:=⟨rfl,br⟩
 obtain⟨cur,T,lo,bP,g1,g2,g3,g4⟩:=(hr.bS r _ he b9).aQ rfl
 have fe:i<l0.length:=by omega
 obtain⟨cs,k1,k2,k3⟩:=g4 i (f l0[i]) (by simp only[Bd.at];rw[List.getElem?_eq_getElem fe];rfl)
 refine⟨_,_,cs,rfl,(hz 0 _).2 ⟨rfl,hr.lt he b9⟩,k1,iH i _ x (List.getElem?_eq_getElem fe) hx E E0 w cs hr hz k2,fun j u hu=> ?_⟩
 rw[cell_of_row w _ _ cur T (lo,bP) g1,Nat.zero_mul,Nat.zero_add]
 exact k3 j u hu
section
variable {s:U} {a c:Nat} {P H:List UInt8} {l:List Rc} {m:Nat} {Q:List UInt8}
end
structure RK where
 key:List UInt8
 val:List UInt8
 lv:Bool
 deriving DecidableEq
def aj(c:Rc):RK:=⟨c.key,c.val,c.lv⟩
theorem sV:∀(l:List Rc)(i:Nat)(c:Rc),l[i]? =some c→(dI l)[2*i]? =some c.key∧(dI l)[2*i+1]? =some c.val
 | [],i,c,h=>by simp at h
 | d::l,0,c,h=>by
  obtain rfl:d=c:=by simpa using h
  exact⟨rfl,rfl⟩
 | d::l,i+1,c,h=>sV l i c (by simpa using h)
theorem qW:∀(l:List Rc)(j i:Nat)(c:Rc),l[i]? =some c→(bX j l)[i]? =some ⟨j+2*i,c.key.length,c.val.length,c.lv⟩
 | [],j,i,c,h=>by simp at h
 | d::l,j,0,c,h=>by
  obtain rfl:d=c:=by simpa using h
  rfl
 | d::l,j,i+1,c,h=>by
  rw[bX,List.getElem?_cons_succ,qW l (j+2) i c (by simpa using h)]
  congr 2;omega
def C5(z:Nat)(r:RK):List AV:=[.bs z r.key,.bs z r.val,.val (.bool r.lv)]
def bG:RK:=⟨[],[],false⟩
theorem Ig(x:List UInt8):∀(n a:Nat),x.length - a=n→(∀r∈(cu x a).1,r.key.length≤x.length∧r.val.length≤x.length)∧(cu x a).1.length≤n:=by
 intro n
 induction n using Nat.strongRecOn with
 | _ n ih=>
  intro a ha
  by_cases h:a<x.length∧x.getD a 0≠255
  ·by_cases hr:iu (x.drop a)
   ·rw[vF h hr]
    have hN:=vE (x.drop a)
    have hx:=hr.2.2.2.2.2.1
    rw[List.length_drop] at hx
    obtain⟨h1,h2⟩:=ih (x.length - (a+dY (x.drop a))) (by omega) (a+dY (x.drop a)) rfl
    refine⟨fun r hm=> ?_,by simp only[List.length_cons];omega⟩
    rcases List.mem_cons.1 hm with rfl | hm
    ·constructor
     ·show(dQ (x.drop a)).length≤x.length
      unfold dQ;simp only[List.length_drop,List.length_take];omega
     ·show(eB (x.drop a)).length≤x.length
      unfold eB;simp only[List.length_drop,List.length_take];omega
    ·exact h1 r hm
   ·rw[vG h hr]
    exact⟨by simp,Nat.zero_le _⟩
  ·rw[sO h]
   exact⟨by simp,Nat.zero_le _⟩
structure cJ(rs:List Rr)(ps:List (List UInt8))(ls:List RK):Prop where
 len:rs.length=ls.length
 el:∀(i:Nat)(x:Rr)(y:RK),rs[i]? =some x→ls[i]? =some y→ps[x.i]? =some y.key∧x.kn=y.key.length∧ps[x.i+1]? =some y.val∧x.vn=y.val.length∧x.lv=y.lv
theorem cJ.of(l:List Rc):cJ (bX 0 l) (dI l) (l.map aj):=by
 refine⟨by rw[di,List.length_map],fun i x y hx hy=> ?_⟩
 rw[List.getElem?_map] at hy
 obtain⟨c,hc,rfl⟩:=Option.map_eq_some_iff.1 hy
 obtain⟨p0,p1⟩:=sV l i c hc
 rw[qW l 0 i c hc,Nat.zero_add] at hx
 obtain rfl:=Option.some.inj hx
 exact⟨p0,rfl,p1,rfl,rfl⟩
theorem HL{rows:List J}{r v q w n:Nat}{rs:List Rr}{ps:List (List UInt8)}{ls:List RK}(h:cJ rs ps ls)(he:bb rows r=some ⟨v,.row 3 (b7 q w) ⟨0,0,0,false⟩ rs⟩)(hp:bb rows q=some ⟨w,.az ps⟩)(hn:n=rs.length):As rows (.own r v 3 0 n) (.sl 0 3 (C5 0) bG ls):=by
 refine PF he hn (by rw[hn,h.len]) fun i x y hx hy=> ?_
 obtain⟨q1,q2,q3,q4,q5⟩:=h.el i x y hx hy
 have a1:=BY (off:=0) (n:=y.key.length) hp q1 (by omega)
 have a2:=BY (off:=0) (n:=y.val.length) hp q3 (by omega)
 rw[whole] at a1 a2
 unfold b7 C5
 rw[q2,q4,q5]
 exact eA a1 (eA a2 (eA o5 iq))
theorem fI{W:Int}{n k:Nat}{s:U}{a c:Nat}(g:aw W n k s)(p:aA n k a c){l:List Rc}{e:Nat}{b:Bool}(hS:s.scan a c=(l,e,b)):(∀r∈l.map aj,r.key.length≤140737488355328∧r.val.length≤140737488355328)∧(l.map aj).length≤140737488355328:=by
 have hb:=g.lP p
 have mu:=hb.len
 have jg:=g.len
 have HN:(s.cZ a c).length≤4194304:=by unfold U.cZ;rw[List.length_take,List.length_drop,g.l];omega
 have vS:=Ig (s.cZ a c) _ 16 rfl
 rw[show cu (s.cZ a c) 16=(l,e,b) from hS] at vS
 obtain⟨ku,PG⟩:=vS
 simp only at ku PG
 refine⟨fun r hr=> ?_,by rw[List.length_map];omega⟩
 obtain⟨c,hc,rfl⟩:=List.mem_map.1 hr
 have:=ku c hc
 unfold aj
 simp only
 omega
theorem jH{W:Int}{n k:Nat}{s:U}{a c:Nat}(g:aw W n k s)(p:aA n k a c){l:List Rc}{e:Nat}{b:Bool}(hS:s.scan a c=(l,e,b)):l.length≤4194304:=by
 have jg:=g.len
 have HN:(s.cZ a c).length≤4194304:=by unfold U.cZ;rw[List.length_take,List.length_drop,g.l];omega
 have vS:=(Ig (s.cZ a c) _ 16 rfl).2
 rw[show cu (s.cZ a c) 16=(l,e,b) from hS] at vS
 simp only at vS
 omega
theorem pJ(s:U)(b:Bool)(h:s.dd=b)(v0 v1:Nat):Spec Tryz.prog 31 [.ref 0 v0 6 0 0] [⟨v0,.obj [.own 1 v1 1 0 s.l.length,.val (.int .i64 (s.k:Int)),.val (.int .i64 s.ar),.val (.int .i64 s.pt),.val (.bool s.dd),.val (.int .i64 s.wr)]⟩,⟨v1,.bytes s.l⟩] (bZ (.val (.bool b)) [⟨v0,.obj [.own 1 v1 1 0 s.l.length,.val (.int .i64 (s.k:Int)),.val (.int .i64 s.ar),.val (.int .i64 s.pt),.val (.bool s.dd),.val (.int .i64 s.wr)]⟩,⟨v1,.bytes s.l⟩]):=by
 subst h
 exact N7 s v0 v1
theorem PH(s s':U)(e:Int)(h:s.on=(e,s'))(v0 v1:Nat):Spec Tryz.prog 32 [.ref 0 v0 6 0 0] [⟨v0,.obj [.own 1 v1 1 0 s.l.length,.val (.int .i64 (s.k:Int)),.val (.int .i64 s.ar),.val (.int .i64 s.pt),.val (.bool s.dd),.val (.int .i64 s.wr)]⟩,⟨v1,.bytes s.l⟩] (bZ (.val (.int .i64 e)) [⟨v0,.obj [.own 1 v1 1 0 s'.l.length,.val (.int .i64 (s'.k:Int)),.val (.int .i64 s'.ar),.val (.int .i64 s'.pt),.val (.bool s'.dd),.val (.int .i64 s'.wr)]⟩,⟨v1,.bytes s'.l⟩]):=by
 have:=N6 s v0 v1
 rw[h] at this
 exact this
def dB(l:List RK)(key:List UInt8):Nat→Int
 | 0=> -1
 | n+1=>if(l.getD n bG).lv=true∧(l.getD n bG).key=key then(n:Int) else dB l key n
def aT(l:List RK)(key:List UInt8):Int:=dB l key l.length
theorem ot(l:List RK)(key:List UInt8):∀n:Nat,-1≤dB l key n∧dB l key n<n
 | 0=>by simp[dB]
 | n+1=>by
  have:=ot l key n
  unfold dB
  split<;>omega
def fj(l:List RK)(j:Nat):Bool:=decide (aT l (l.getD j bG).key=(j:Int))
def dA(l:List RK)(n:Nat):List Nat:=(List.range n).filter (fj l)
def b8(l:List RK):List RK:=(dA l l.length).map fun j=>l.getD j bG
theorem sW(l:List RK)(n:Nat):dA l (n+1)=dA l n++if fj l n then[n] else[]:=by
 unfold dA
 rw[List.range_succ,List.filter_append]
 congr 1
 cases h:fj l n<;>simp[h]
theorem vT(l:List RK)(n:Nat):(dA l n).length≤n:=by
 have:=List.length_filter_le (fj l) (List.range n)
 simpa [dA] using this
def aP:List RK→Nat
 | []=>0
 | r::l=>12+r.key.length+r.val.length+aP l
def U.a8(s:U)(c:Nat):Nat×Int×Bool:=if(s.head c).2.1=true∧((s.head 0).2.1=false∨(s.head 0).1< (s.head c).1) then(1,(s.head c).1,(s.head c).2.1) else(0,(s.head 0).1,(s.head 0).2.1)
def U.fg(s:U)(c:Nat):List Rc×Nat×Bool:=s.scan ((s.a8 c).1*c) c
def U.bw(s:U)(c:Nat):List RK:=(s.fg c).1.map aj
def U.bV(s:U)(a c:Nat):List RK→Int×U
 | []=>(0,s)
 | r::l=>if(s.add a c r.key r.val).1=0 then(s.add a c r.key r.val).2.bV a c l else s.add a c r.key r.val
def U.cB(s:U)(a c:Nat)(g:Int)(l:List RK):Int×U:=
 if(s.format a c g).1=0 then
  if((s.format a c g).2.bV a c l).1=0 then((s.format a c g).2.bV a c l).2.prog ((a:Int)*(((s.format a c g).2.bV a c l).2.k:Int)+12) [254]
  else(s.format a c g).2.bV a c l
 else s.format a c g
def U.copy(s:U)(c:Nat)(l:List RK):Int×U:=if(s.a8 c).2.1=4294967295 then(12,s) else s.cB ((1 - (s.a8 c).1)*c) c ((s.a8 c).2.1+1) l
def U.eG(s:U)(a c:Nat)(l:List RK)(k:Nat):Nat→Int×U
 | 0=>(0,s)
 | m+1=>if(l.getD k bG).lv=true∧aT l (l.getD k bG).key≠(k:Int) then
     if(s.kill a c (k:Int)).1=0 then(s.kill a c (k:Int)).2.eG a c l (k+1) m else s.kill a c (k:Int)
  else s.eG a c l (k+1) m
def U.tidy(s:U)(c:Nat):Int×U:=if s.dd then(6,s) else s.eG ((s.a8 c).1*c) c (s.bw c) 0 (s.bw c).length
def U.put(s:U)(c:Nat)(key val:List UInt8):Int×U:=
 if(s.add ((s.a8 c).1*c) c key val).1=0 then
  if 0≤aT (s.bw c) key then(s.add ((s.a8 c).1*c) c key val).2.kill ((s.a8 c).1*c) c (aT (s.bw c) key)
  else(0,(s.add ((s.a8 c).1*c) c key val).2)
 else s.add ((s.a8 c).1*c) c key val
def U.set(s:U)(c:Nat)(key val:List UInt8):Int×U:=
 if key.length<1∨255<key.length∨65536<val.length then(1,s)
 else if s.dd then(6,s)
 else if(c:Int)*s.k - 16<aP (b8 (s.bw c))+(12+key.length+val.length) then(5,s)
 else if(s.fg c).2.2=false∨(c:Int)*s.k - 16+16 - ((s.fg c).2.1:Int)<12+key.length+val.length then
  if(s.copy c (b8 (s.bw c))).1=0 then
   if(s.copy c (b8 (s.bw c))).2.dd then(6,(s.copy c (b8 (s.bw c))).2) else(s.copy c (b8 (s.bw c))).2.put c key val
  else s.copy c (b8 (s.bw c))
 else s.put c key val
def U.del(s:U)(c:Nat)(key:List UInt8):Int×U:=
 if s.dd then(6,s) else if aT (s.bw c) key<0 then(3,s) else s.kill ((s.a8 c).1*c) c (aT (s.bw c) key)
def U.aW(s:U)(c:Nat):Int×U:=
 if s.dd then(6,s)
 else if(s.a8 c).2.2=false then
  if(s.cB 0 c 1 []).1=0 then(s.cB 0 c 1 []).2.tidy c else s.cB 0 c 1 []
 else s.tidy c
theorem HK(z z':Nat)(l:List RK)(key:List UInt8)(hb:∀r∈l,r.key.length≤140737488355328)(hl:l.length≤140737488355328):Spec Tryz.prog 82 [.sl z 3 (C5 z) bG l,.bs z' key] [] (ak (.val (.int .i64 (aT l key))) [] []):=by
 obtain⟨L,hL⟩:∃L,aT l key=L:=⟨_,rfl⟩
 rw[hL]
 refine ax ai Tryz.func82 rfl Tryz.ntmps82 Tryz.results82 ?_
 refine gg ?_
 (refine aH ?_)
 conv=>whnf
 refine cE (fun m:Nat=>m≤l.length∧L=dB l key m) (fun m=>m) 0 [4,5,9,10,11,12,13,14,15,16,17,18,19,20,21,22,23,24,25,26,27] (fun m=>[(5,.val (.int .i64 ((m:Int) - 1)))]) (fun m=>[]) l.length ⟨Nat.le_refl _,hL.symm⟩ ?_ ?_ ?_
 ·exact no_implicit_lambda%ten
 ·exact no_implicit_lambda%b6
 ·rintro m v ⟨i1,i2⟩
  refine cF ?_
  refine gg ?_
  refine⟨fun h=> ?_,fun h=> ?_⟩
  ·obtain⟨j,rfl⟩:∃j,m=j+1:=⟨m - 1,by have:=of_decide_eq_true h;omega⟩
   have hj:((j+1:Nat):Int) - 1=(j:Int):=by omega
   have kB:l.getD j bG∈l:=by rw[List.getD_eq_getElem?_getD,List.getElem?_eq_getElem (by omega)];exact List.getElem_mem _
   have hk:=hb _ kB
   rw[dB] at i2
   generalize hx:l.getD j bG=x at hk i2
   obtain⟨xk,xv,xl⟩:=x
   simp only at hk i2
   rw[hj]
   refine gg ?_
   simp only[Int.toNat_natCast,hx]
   cases xl with
   | false=>
    rw[if_neg (by simp)] at i2
    refine gg ?_
    (try simp only[Int.toNat_natCast,hx])
    refine gg ?_
    intro _
    refine gg ?_
    exact bk j ⟨by omega,i2⟩ (by show j<j+1;omega)
   | true=>
    refine gg ?_
    (try simp only[Int.toNat_natCast,hx])
    refine gg ?_
    refine aY (Cb xk key z z') Tryz.call125 [] ?_
    by_cases gn:xk=key
    ·rw[if_pos ⟨rfl,gn⟩] at i2
     subst i2
     rw[decide_eq_true gn]
     refine gg ?_
     exact⟨_,rfl,rfl,trivial⟩
    ·rw[if_neg (fun q=>gn q.2)] at i2
     rw[decide_eq_false gn]
     refine gg ?_
     exact bk j ⟨by omega,i2⟩ (by show j<j+1;omega)
  ·have hm:m=0:=by have:=of_decide_eq_false h;omega
   subst hm
   obtain rfl:L= -1:=i2
   refine gg ?_
   exact⟨_,rfl,rfl,trivial⟩
theorem pF {W : Int} {n k : Nat} (s : U) (c : Nat) (g : aw W n k s) (pa : aA n k 0 c) (pb : aA n k c c) (vs va vb v0 v1 : Nat) : Spec Tryz.prog 69 [.ref 0 vs 3 0 0] [⟨vs, .obj [.ref 3 v0 6 0 0, .ref 1 va 3 0 0, .ref 2 vb 3 0 0]⟩, ⟨va, .obj [.ref 3 v0 6 0 0, .val (.int .i64 ((0 : Nat) : Int)), .val (.int .i64 (c : Int))]⟩, ⟨vb, .obj [.ref 3 v0 6 0 0, .val (.int .i64 (c : Int)), .val (.int .i64 (c : Int))]⟩, ⟨v0, .obj [.own 4 v1 1 0 s.l.length, .val (.int .i64 (s.k : Int)), .val (.int .i64 s.ar), .val (.int .i64 s.pt), .val (.bool s.dd), .val (.int .i64 s.wr)]⟩, ⟨v1, .bytes s.l⟩]
   (ak (.aD [.val (.int .i64 ((s.a8 c).1:Int)),.val (.int .u32 (s.a8 c).2.1),.val (.bool (s.a8 c).2.2)]) [⟨vs,.obj [.ref 3 v0 6 0 0,.ref 1 va 3 0 0,.ref 2 vb 3 0 0]⟩,⟨va,.obj [.ref 3 v0 6 0 0,.val (.int .i64 ((0:Nat):Int)),.val (.int .i64 (c:Int))]⟩,⟨vb,.obj [.ref 3 v0 6 0 0,.val (.int .i64 (c:Int)),.val (.int .i64 (c:Int))]⟩,⟨v0,.obj [.own 4 v1 1 0 s.l.length,.val (.int .i64 (s.k:Int)),.val (.int .i64 s.ar),.val (.int .i64 s.pt),.val (.bool s.dd),.val (.int .i64 s.wr)]⟩,⟨v1,.bytes s.l⟩] []):=by
 refine ax ai Tryz.func69 rfl Tryz.ntmps69 Tryz.results69 ?_
 have vj:=Hc s 0 c g pa va v0 v1
 have ek:=Hc s c c g pb vb v0 v1
 unfold U.a8
 generalize s.head 0=h0 at vj⊢
 generalize s.head c=h1 at ek⊢
 obtain⟨g0,r0,e0⟩:=h0
 obtain⟨g1,r1,e1⟩:=h1
 simp only at vj ek⊢
 refine gg ?_
 (refine aH ?_)
 conv=>whnf
 refine cE (fun i:Nat=>i≤2) (fun i=>2 - i) 5 [7,8,13,14,15,16,17,18,19,20,21,22,23,24,25,26,27] (fun i=>[(13,.val (.int .i64 (i:Int)))]) (fun i=>[(10,⟨1,.obj [.val (.int .u32 (if i=0 then 0 else g0)),.val (.int .u32 (if i=2 then g1 else 0))]⟩),(11,⟨1,.obj [.val (.bool (if i=0 then false else r0)),.val (.bool (if i=2 then r1 else false))]⟩)]) 0 (by decide) ?_ ?_ ?_
 ·exact no_implicit_lambda%ten
 ·exact no_implicit_lambda%b6
 ·rintro i v i1
  refine cF ?_
  refine gg ?_
  refine⟨fun h=> ?_,fun h=> ?_⟩
  ·obtain rfl | rfl:i=0∨i=1:=by have:=of_decide_eq_true h;omega
   ·refine gg ?_
    refine af (vj) Tryz.call112 3 [1,3,4] [0,0,0] [] ?_
    refine gg ?_
    exact bk 1 (by decide) (by show 2 - 1<2 - 0;decide)
   ·refine gg ?_
    refine af (ek) Tryz.call112 3 [2,3,4] [0,0,0] [] ?_
    refine gg ?_
    exact bk 2 (by decide) (by show 2 - 2<2 - 1;decide)
  ·obtain rfl:i=2:=by have:=of_decide_eq_false h;omega
   simp only[show(if(2:Nat)=0 then(0:Int) else g0)=g0 from rfl,show(if(2:Nat)=2 then g1 else(0:Int))=g1 from rfl,show(if(2:Nat)=0 then false else r0)=r0 from rfl,show(if(2:Nat)=2 then r1 else false)=r1 from rfl,if_true]
   cases r1 with
   | false=>
    rw[if_neg (by simp)]
    refine gg ?_
    (
 (refine aH ?_)
 refine bL (p:=5) ai hm [0,0,2,6,0,16,48,19,159,511] [⟨0,false,false,[]⟩,⟨1,false,false,[]⟩,⟨2,true,false,[42,45,46,47,48,2,3,4]⟩,⟨3,true,false,[42,46,47,48,2,3,4]⟩,⟨4,false,false,[]⟩,⟨5,true,false,[42,43,44,45,48,2,3,4]⟩,⟨6,true,false,[42,43,44,45,2,3,4]⟩,⟨7,false,false,[]⟩,⟨8,false,false,[]⟩,⟨9,false,false,[]⟩] (by kernel_rfl) ?_
 refine gg ?_
 exact ⟨_, rfl, rfl, trivial⟩)
   | true=>
   cases r0 with
   | false=>
    rw[if_pos (by simp)]
    refine gg ?_
    refine⟨fun _=> ?_,fun h=>absurd h (by simp)⟩
    refine gg ?_
    (
 (refine aH ?_)
 refine bL (p:=5) ai hm [0,0,2,6,0,16,48,19,159,511] [⟨0,false,false,[]⟩,⟨1,false,false,[]⟩,⟨2,true,false,[42,45,46,47,48,2,3,4]⟩,⟨3,true,false,[42,46,47,48,2,3,4]⟩,⟨4,false,false,[]⟩,⟨5,true,false,[42,43,44,45,48,2,3,4]⟩,⟨6,true,false,[42,43,44,45,2,3,4]⟩,⟨7,false,false,[]⟩,⟨8,false,false,[]⟩,⟨9,false,false,[]⟩] (by kernel_rfl) ?_
 refine gg ?_
 exact ⟨_, rfl, rfl, trivial⟩)
   | true=>
   by_cases hg:g0<g1
   ·rw[if_pos ⟨rfl,.inr hg⟩]
    have hd:decide (g0<g1)=true:=decide_eq_true hg
    refine gg ?_
    rw[hd]
    refine gg ?_
    (
 (refine aH ?_)
 refine bL (p:=5) ai hm [0,0,2,6,0,16,48,19,159,511] [⟨0,false,false,[]⟩,⟨1,false,false,[]⟩,⟨2,true,false,[42,45,46,47,48,2,3,4]⟩,⟨3,true,false,[42,46,47,48,2,3,4]⟩,⟨4,false,false,[]⟩,⟨5,true,false,[42,43,44,45,48,2,3,4]⟩,⟨6,true,false,[42,43,44,45,2,3,4]⟩,⟨7,false,false,[]⟩,⟨8,false,false,[]⟩,⟨9,false,false,[]⟩] (by kernel_rfl) ?_
 refine gg ?_
 exact ⟨_, rfl, rfl, trivial⟩)
   ·rw[if_neg (by simp[hg])]
    have hd:decide (g0<g1)=false:=decide_eq_false hg
    refine gg ?_
    rw[hd]
    refine gg ?_
    (
 (refine aH ?_)
 refine bL (p:=5) ai hm [0,0,2,6,0,16,48,19,159,511] [⟨0,false,false,[]⟩,⟨1,false,false,[]⟩,⟨2,true,false,[42,45,46,47,48,2,3,4]⟩,⟨3,true,false,[42,46,47,48,2,3,4]⟩,⟨4,false,false,[]⟩,⟨5,true,false,[42,43,44,45,48,2,3,4]⟩,⟨6,true,false,[42,43,44,45,2,3,4]⟩,⟨7,false,false,[]⟩,⟨8,false,false,[]⟩,⟨9,false,false,[]⟩] (by kernel_rfl) ?_
 refine gg ?_
 exact⟨_,rfl,rfl,trivial⟩)
theorem CR {rs : List Rr} {ps : List (List UInt8)} {la : List RK} (h : cJ rs ps la) (hb : (∀ r ∈ la, r.key.length ≤ 140737488355328 ∧ r.val.length ≤ 140737488355328) ∧ la.length ≤ 140737488355328) {i : Nat} {key : List UInt8} (hi : ps[i]? = some key) (na kn va wa : Nat) (br : na = rs.length) (dH : kn = key.length) :
    Spec Tryz.prog 82 [.own 0 va 3 0 na,.pl 1 wa i 0 kn] [⟨va,.row 3 (b7 1 wa) ⟨0,0,0,false⟩ rs⟩,⟨wa,.az ps⟩]
     (ak (.val (.int .i64 (aT la key))) [⟨va,.row 3 (b7 1 wa) ⟨0,0,0,false⟩ rs⟩,⟨wa,.az ps⟩] []):=by
 have a:=BY (rows:=[⟨va,.row 3 (b7 1 wa) ⟨0,0,0,false⟩ rs⟩,⟨wa,.az ps⟩]) (r:=1) (off:=0) (n:=kn) rfl hi (by omega)
 rw[dH,whole,←dH] at a
 exact kC (HK 0 0 la key (fun r hr=>(hb.1 r hr).1) hb.2) trivial trivial (rows:=[⟨va,.row 3 (b7 1 wa) ⟨0,0,0,false⟩ rs⟩,⟨wa,.az ps⟩]) (args:=[.own 0 va 3 0 na,.pl 1 wa i 0 kn])
  (eA (HL h rfl rfl br) (eA a iq))
theorem Ih (s : U) (a c : Nat) (l : List Rc) (hb : (∀ r ∈ l.map aj, r.key.length ≤ 140737488355328 ∧ r.val.length ≤ 140737488355328) ∧ (l.map aj).length ≤ 140737488355328) (j : Nat) (hj : j < l.length) (e : Int) (b : Bool) (vt vx vr vw vb v0 v1 : Nat) :
   Spec Tryz.prog 120 [.agg (b7 3 vw ((bX 0 l).getD j ⟨0,0,0,false⟩)),.ref 0 vt 1 0 0,.ref 1 vx 5 0 0] [⟨vt,.obj [.val (.int .i64 (j:Int))]⟩,⟨vx,.obj [.ref 4 vb 3 0 0,.own 2 vr 3 0 l.length,.val (.slice none 0 0),.val (.int .i64 e),.val (.bool b)]⟩,⟨vr,.row 3 (b7 3 vw) ⟨0,0,0,false⟩ (bX 0 l)⟩,⟨vw,.az (dI l)⟩,⟨vb,.obj [.ref 5 v0 6 0 0,.val (.int .i64 (a:Int)),.val (.int .i64 (c:Int))]⟩,⟨v0,.obj [.own 6 v1 1 0 s.l.length,.val (.int .i64 (s.k:Int)),.val (.int .i64 s.ar),.val (.int .i64 s.pt),.val (.bool s.dd),.val (.int .i64 s.wr)]⟩,⟨v1,.bytes s.l⟩]
   (ak (.val (.bool (!fj (l.map aj) j))) [⟨vt,.obj [.val (.int .i64 ((j:Int)+1))]⟩,⟨vx,.obj [.ref 4 vb 3 0 0,.own 2 vr 3 0 l.length,.val (.slice none 0 0),.val (.int .i64 e),.val (.bool b)]⟩,⟨vr,.row 3 (b7 3 vw) ⟨0,0,0,false⟩ (bX 0 l)⟩,⟨vw,.az (dI l)⟩,⟨vb,.obj [.ref 5 v0 6 0 0,.val (.int .i64 (a:Int)),.val (.int .i64 (c:Int))]⟩,⟨v0,.obj [.own 6 v1 1 0 s.l.length,.val (.int .i64 (s.k:Int)),.val (.int .i64 s.ar),.val (.int .i64 s.pt),.val (.bool s.dd),.val (.int .i64 s.wr)]⟩,⟨v1,.bytes s.l⟩] []):=by
 obtain⟨d,hd⟩:∃d,l[j]? =some d:=⟨l[j],List.getElem?_eq_getElem hj⟩
 obtain⟨p0,p1⟩:=sV l j d hd
 have hr:(bX 0 l).getD j ⟨0,0,0,false⟩=⟨2*j,d.key.length,d.val.length,d.lv⟩:=by rw[List.getD_eq_getElem?_getD,qW l 0 j d hd,Nat.zero_add];rfl
 have Vc:j<140737488355328:=by have:=hb.2;rw[List.length_map] at this;omega
 have hk:fj (l.map aj) j=decide (aT (l.map aj) d.key=(j:Int)):=by
  unfold fj
  rw[List.getD_eq_getElem?_getD,List.getElem?_map,hd];rfl
 rw[hk,hr]
 refine ax ai Tryz.func120 rfl Tryz.ntmps120 Tryz.results120 ?_
 unfold b7
 refine gg ?_
 (refine aH ?_)
 refine bL (p:=7) ai hm [0,1,0,4,15,0,32,127,255] [⟨0,true,false,[8,9,10,11,12,13,14,4]⟩,⟨1,true,false,[9,10,11,12,13,14,4]⟩,⟨2,true,false,[7,8,10,11,12,13,14,4]⟩,⟨3,true,false,[7,8,11,12,13,14,4]⟩,⟨5,true,false,[7,8,9,10,11,13,14,4]⟩,⟨6,false,false,[]⟩,⟨4,true,false,[12,13,14,4]⟩,⟨7,false,false,[]⟩,⟨8,false,false,[]⟩] (by kernel_rfl) ?_
 refine gg ?_
 refine af (CR (cJ.of l) hb p0 l.length d.key.length vr vw (di l 0).symm rfl) Tryz.call82 (hrows:=⟨⟨fun _=>⟨Nat.lt_succ_self 1,Nat.lt_succ_self 1,trivial,trivial⟩,rfl⟩,⟨trivial,rfl⟩,trivial⟩) (hr2:=⟨fun _=>⟨rfl,rfl,trivial,trivial⟩,trivial,trivial⟩) 2 [2,3] [0,0] [] ?_
 refine gg ?_
 rw[show(j:Int)+1 - 1=(j:Int) by omega]
 exact⟨_,rfl,rfl,trivial⟩
theorem PI (s : U) (a c : Nat) (l : List Rc) (hb : (∀ r ∈ l.map aj, r.key.length ≤ 140737488355328 ∧ r.val.length ≤ 140737488355328) ∧ (l.map aj).length ≤ 140737488355328) (i : Nat) (hi : i ≤ l.length) (h1 : ∀ j, j < i → fj (l.map aj) j = true) (h2 : i < l.length → fj (l.map aj) i = false) (e : Int) (b : Bool) (vt vx vr vw vb v0 v1 vs : Nat) :
   Spec Tryz.prog 163 [.own 7 vs 3 0 l.length,.clo 120 [.ref 0 vt 1 0 0,.ref 1 vx 5 0 0]] [⟨vt,.obj [.val (.int .i64 0)]⟩,⟨vx,.obj [.ref 4 vb 3 0 0,.own 2 vr 3 0 l.length,.val (.slice none 0 0),.val (.int .i64 e),.val (.bool b)]⟩,⟨vr,.row 3 (b7 3 vw) ⟨0,0,0,false⟩ (bX 0 l)⟩,⟨vw,.az (dI l)⟩,⟨vb,.obj [.ref 5 v0 6 0 0,.val (.int .i64 (a:Int)),.val (.int .i64 (c:Int))]⟩,⟨v0,.obj [.own 6 v1 1 0 s.l.length,.val (.int .i64 (s.k:Int)),.val (.int .i64 s.ar),.val (.int .i64 s.pt),.val (.bool s.dd),.val (.int .i64 s.wr)]⟩,⟨v1,.bytes s.l⟩,⟨vs,.row 3 (b7 3 vw) ⟨0,0,0,false⟩ (bX 0 l)⟩]
   (ak (.val (.int .i64 (if i<l.length then(i:Int) else -1))) [⟨vt,.obj [.val (.int .i64 (if i<l.length then(i:Int)+1 else(i:Int)))]⟩,⟨vx,.obj [.ref 4 vb 3 0 0,.own 2 vr 3 0 l.length,.val (.slice none 0 0),.val (.int .i64 e),.val (.bool b)]⟩,⟨vr,.row 3 (b7 3 vw) ⟨0,0,0,false⟩ (bX 0 l)⟩,⟨vw,.az (dI l)⟩,⟨vb,.obj [.ref 5 v0 6 0 0,.val (.int .i64 (a:Int)),.val (.int .i64 (c:Int))]⟩,⟨v0,.obj [.own 6 v1 1 0 s.l.length,.val (.int .i64 (s.k:Int)),.val (.int .i64 s.ar),.val (.int .i64 s.pt),.val (.bool s.dd),.val (.int .i64 s.wr)]⟩,⟨v1,.bytes s.l⟩,⟨vs,.row 3 (b7 3 vw) ⟨0,0,0,false⟩ (bX 0 l)⟩] []):=by
 have lh:l.length≤140737488355328:=by have:=hb.2;rw[List.length_map] at this;exact this
 have gP:(bX 0 l).length=l.length:=di l 0
 refine ax ai Tryz.func163 rfl Tryz.ntmps163 Tryz.results163 ?_
 refine gg ?_
 (refine aH ?_)
 conv=>whnf
 refine cE (fun j:Nat=>j≤i) (fun j=>i - j) 8 [4,5,8,9,10,11,12,13,14,15,16,17,18] (fun j=>[(8,.val (.int .i64 (j:Int)))]) (fun j=>[(0,⟨vt,.obj [.val (.int .i64 (j:Int))]⟩)]) 0 (Nat.zero_le _) ?_ ?_ ?_
 ·exact no_implicit_lambda%ten
 ·exact no_implicit_lambda%b6
 ·rintro j v hj
  refine cF ?_
  refine gg ?_
  refine⟨fun h=> ?_,fun h=> ?_⟩
  ·have ah:j<l.length:=by have:=of_decide_eq_true h;omega
   refine gg ?_
   simp only[Int.toNat_natCast,Nat.zero_add]
   refine gg ?_
   try ((conv=>whnf);(refine And.intro ⟨rfl,⟨rfl,by rw[gP];exact ah⟩,Nat.le_of_ble_eq_true rfl⟩ ?_))
   refine gg ?_
   refine af (Ih s a c l hb j ah e b vt vx vr vw vb v0 v1) Tryz.call120 (hrows:=⟨⟨⟨trivial,trivial⟩,rfl⟩,⟨⟨(by show 4<7;decide),(by show 2<7;decide),trivial,trivial,trivial,trivial⟩,rfl⟩,⟨fun _=>⟨(by show 3<7;decide),(by show 3<7;decide),trivial,trivial⟩,rfl⟩,⟨trivial,rfl⟩,⟨⟨(by show 5<7;decide),trivial,trivial,trivial⟩,rfl⟩,⟨⟨(by show 6<7;decide),trivial,trivial,trivial,trivial,trivial,trivial⟩,rfl⟩,⟨trivial,rfl⟩,trivial⟩) (hr2:=⟨⟨trivial,trivial⟩,⟨rfl,rfl,trivial,trivial,trivial,trivial⟩,fun _=>⟨rfl,rfl,trivial,trivial⟩,trivial,⟨rfl,trivial,trivial,trivial⟩,⟨rfl,trivial,trivial,trivial,trivial,trivial,trivial⟩,trivial,trivial⟩) (hon:=⟨⟨(by show 3<7;decide),(by show 3<7;decide),trivial,trivial⟩,(by show 0<7;decide),(by show 1<7;decide),trivial⟩) 7 [0,1,2,3,4,5,6] [0,0,0,0,0,0,0] [] ?_
   by_cases Ii:j<i
   ·rw[h1 j Ii]
    refine gg ?_
    exact bk (j+1) Ii (by show i - (j+1)<i - j;omega)
   ·obtain rfl:j=i:=by omega
    rw[h2 ah]
    rw[if_pos ah,if_pos ah]
    refine gg ?_
    exact⟨_,rfl,rfl,trivial⟩
  ·have lr:l.length≤j:=by have:=of_decide_eq_false h;omega
   obtain rfl:j=i:=by omega
   rw[if_neg (by omega),if_neg (by omega)]
   refine gg ?_
   exact⟨_,rfl,rfl,trivial⟩
end Go.Proofs.YtpbpiehcchannaaGreatDoor
