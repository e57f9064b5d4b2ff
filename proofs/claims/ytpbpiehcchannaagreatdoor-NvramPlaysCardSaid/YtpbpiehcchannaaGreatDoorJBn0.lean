/- Records in rows and pools, as slices; what a scan may tell. Conditions: none. -/
import Derived.Test.YtpbpiehcchannaaGreatDoorJGp
import Derived.Test.YtpbpiehcchannaaGreatDoorJGl
namespace Go.Proofs.YtpbpiehcchannaaGreatDoor
open Go.RowKit
set_option linter.unusedVariables false
set_option linter.unusedSimpArgs false
set_option maxRecDepth 100000
set_option maxHeartbeats 1500000
theorem J5 {rows : List U} {r ver sz n : Nat} {α β : Type} {f : α → List AV} {d : α} {l0 : List α} {g : β → List AV} {d' : β} {ls : List β} (he : aT rows r = some ⟨ver, .row sz f d l0⟩) (hn : n = l0.length) (hl : ls.length = n)
    (gM:∀(i:Nat)(x:α)(y:β),l0[i]? =some x→ls[i]? =some y→sL rows (f x) (g y)):As rows (.own r ver sz 0 n) (.sl 0 sz g d' ls):=fun E E0 w v hr hz h=>by
 rw[bS] at he
 simp only[Go.Proofs.YtpbpiehcchannaaGreatDoor.ah] at h⊢
 obtain⟨a,c,rfl,h2,h3,h4,h5⟩:=h.2 (hr.ver r _ he).symm
 refine⟨a,n,c,rfl,hl.symm,h2,h3,h4,fun i x hx=> ?_⟩
 have hi:=(List.getElem?_eq_some_iff.1 hx).1
 obtain⟨bo,rfl,_⟩:=h5.resolve_left (by omega)
 have cn:bH E r ⟨ver,.row sz f d l0⟩:=⟨rfl,bo⟩
 obtain⟨cur,T,lo,bG,g1,g2,g3,g4⟩:=(hr.bM r _ he cn).aO rfl
 have eL:i<l0.length:=by omega
 obtain⟨cs,k1,k2,k3⟩:=g4 i (f l0[i]) (by simp only[Bd.at];rw[List.getElem?_eq_getElem eL];rfl)
 refine⟨_,_,cs,rfl,(hz 0 _).2 ⟨rfl,hr.lt he cn⟩,k1,gM i _ x (List.getElem?_eq_getElem eL) hx E E0 w cs hr hz k2,fun j u hu=> ?_⟩
 rw[cell_of_row w _ _ cur T (lo,bG) g1,Nat.zero_mul,Nat.zero_add]
 exact k3 j u hu
section
variable {s:J} {a c:Nat} {P H:List UInt8} {l:List Rc} {m:Nat} {Q:List UInt8}
end
structure RK where
 key:List UInt8
 val:List UInt8
 lv:Bool
 deriving DecidableEq
def an(c:Rc):RK:=⟨c.key,c.val,c.lv⟩
theorem pg:∀(l:List Rc)(i:Nat)(c:Rc),l[i]? =some c→(cV l)[2*i]? =some c.key∧(cV l)[2*i+1]? =some c.val
 | [],i,c,h=>by simp at h
 | d::l,0,c,h=>by
  obtain rfl:d=c:=by simpa using h
  exact⟨rfl,rfl⟩
 | d::l,i+1,c,h=>pg l i c (by simpa using h)
theorem ph:∀(l:List Rc)(j i:Nat)(c:Rc),l[i]? =some c→(bK j l)[i]? =some ⟨j+2*i,c.key.length,c.val.length,c.lv⟩
 | [],j,i,c,h=>by simp at h
 | d::l,j,0,c,h=>by
  obtain rfl:d=c:=by simpa using h
  rfl
 | d::l,j,i+1,c,h=>by
  rw[bK,List.getElem?_cons_succ,ph l (j+2) i c (by simpa using h)]
  congr 2;omega
def eY(z:Nat)(r:RK):List AV:=[.bs z r.key,.bs z r.val,.val (.bool r.lv)]
def bl:RK:=⟨[],[],false⟩
theorem DG(x:List UInt8):∀(n a:Nat),x.length - a=n→(∀r∈(bj x a).1,r.key.length≤x.length∧r.val.length≤x.length)∧(bj x a).1.length≤n:=by
 intro n
 induction n using Nat.strongRecOn with
 | _ n ih=>
  intro a ha
  by_cases h:a<x.length∧x.getD a 0≠255
  ·by_cases hr:dU (x.drop a)
   ·rw[pj h hr]
    have hN:=pn (x.drop a)
    have hx:=hr.2.2.2.2.2.1
    rw[List.length_drop] at hx
    obtain⟨h1,h2⟩:=ih (x.length - (a+bU (x.drop a))) (by omega) (a+bU (x.drop a)) rfl
    refine⟨fun r hm=> ?_,by simp only[List.length_cons];omega⟩
    rcases List.mem_cons.1 hm with rfl | hm
    ·constructor
     ·show(bR (x.drop a)).length≤x.length
      unfold bR;simp only[List.length_drop,List.length_take];omega
     ·show(b5 (x.drop a)).length≤x.length
      unfold b5;simp only[List.length_drop,List.length_take];omega
    ·exact h1 r hm
   ·rw[po h hr]
    exact⟨by simp,Nat.zero_le _⟩
  ·rw[nT h]
   exact⟨by simp,Nat.zero_le _⟩
structure ct(rs:List Rr)(ps:List (List UInt8))(ls:List RK):Prop where
 len:rs.length=ls.length
 el:∀(i:Nat)(x:Rr)(y:RK),rs[i]? =some x→ls[i]? =some y→ps[x.i]? =some y.key∧x.kn=y.key.length∧ps[x.i+1]? =some y.val∧x.vn=y.val.length∧x.lv=y.lv
theorem ct.of(l:List Rc):ct (bK 0 l) (cV l) (l.map an):=by
 refine⟨by rw[cP,List.length_map],fun i x y hx hy=> ?_⟩
 rw[List.getElem?_map] at hy
 obtain⟨c,hc,rfl⟩:=Option.map_eq_some_iff.1 hy
 obtain⟨p0,p1⟩:=pg l i c hc
 rw[ph l 0 i c hc,Nat.zero_add] at hx
 obtain rfl:=Option.some.inj hx
 exact⟨p0,rfl,p1,rfl,rfl⟩
theorem ct.set{rs:List Rr}{ps:List (List UInt8)}{ls:List RK}(h:ct rs ps ls)(i:Nat)(b:Bool)(d:Rr)(e:RK):ct (rs.set i ⟨(rs.getD i d).i,(rs.getD i d).kn,(rs.getD i d).vn,b⟩) ps (ls.set i ⟨(ls.getD i e).key,(ls.getD i e).val,b⟩):=by
 refine⟨by simp[h.len],fun j x y hx hy=> ?_⟩
 have hl:=h.len
 by_cases hj:i=j
 ·subst hj
  have hi:i<rs.length:=by
   have:=(List.getElem?_eq_some_iff.1 hx).1
   simpa using this
  have c7:i<ls.length:=by omega
  rw[List.getElem?_set_self hi] at hx
  rw[List.getElem?_set_self c7] at hy
  obtain rfl:=Option.some.inj hx
  obtain rfl:=Option.some.inj hy
  have e1:rs[i]? =some (rs.getD i d):=by rw[List.getD_eq_getElem?_getD,List.getElem?_eq_getElem hi];rfl
  have e2:ls[i]? =some (ls.getD i e):=by rw[List.getD_eq_getElem?_getD,List.getElem?_eq_getElem c7];rfl
  obtain⟨q1,q2,q3,q4,_⟩:=h.el i _ _ e1 e2
  exact⟨q1,q2,q3,q4,rfl⟩
 ·rw[List.getElem?_set_ne hj] at hx hy
  exact h.el j x y hx hy
theorem DH{rows:List U}{r v q w n:Nat}{rs:List Rr}{ps:List (List UInt8)}{ls:List RK}(h:ct rs ps ls)(he:aT rows r=some ⟨v,.row 3 (bO q w) ⟨0,0,0,false⟩ rs⟩)(hp:aT rows q=some ⟨w,.aB ps⟩)(hn:n=rs.length):As rows (.own r v 3 0 n) (.sl 0 3 (eY 0) bl ls):=by
 refine J5 he hn (by rw[hn,h.len]) fun i x y hx hy=> ?_
 obtain⟨q1,q2,q3,q4,q5⟩:=h.el i x y hx hy
 have a1:=vk (off:=0) (n:=y.key.length) hp q1 (by omega)
 have a2:=vk (off:=0) (n:=y.val.length) hp q3 (by omega)
 rw[whole] at a1 a2
 unfold bO eY
 rw[q2,q4,q5]
 exact du a1 (du a2 (du lR fT))
theorem eB{W:Int}{n k:Nat}{s:J}{a c:Nat}(g:av W n k s)(p:aC n k a c){l:List Rc}{e:Nat}{b:Bool}(hS:s.scan a c=(l,e,b)):(∀r∈l.map an,r.key.length≤140737488355328∧r.val.length≤140737488355328)∧(l.map an).length≤140737488355328:=by
 have hb:=g.eZ p
 have ij:=hb.len
 have eA:=g.len
 have DI:(s.bE a c).length≤4194304:=by unfold J.bE;rw[List.length_take,List.length_drop,g.l];omega
 have nU:=DG (s.bE a c) _ 16 rfl
 rw[show bj (s.bE a c) 16=(l,e,b) from hS] at nU
 obtain⟨kj,y9⟩:=nU
 simp only at kj y9
 refine⟨fun r hr=> ?_,by rw[List.length_map];omega⟩
 obtain⟨c,hc,rfl⟩:=List.mem_map.1 hr
 have:=kj c hc
 unfold an
 simp only
 omega
theorem ja{W:Int}{n k:Nat}{s:J}{a c:Nat}(g:av W n k s)(p:aC n k a c){l:List Rc}{e:Nat}{b:Bool}(hS:s.scan a c=(l,e,b)):l.length≤4194304:=by
 have eA:=g.len
 have DI:(s.bE a c).length≤4194304:=by unfold J.bE;rw[List.length_take,List.length_drop,g.l];omega
 have nU:=(DG (s.bE a c) _ 16 rfl).2
 rw[show bj (s.bE a c) 16=(l,e,b) from hS] at nU
 simp only at nU
 omega
theorem sY(s:J)(b:Bool)(h:s.dd=b)(v0 v1:Nat):Spec Tryz.prog 31 [.ref 0 v0 6 0 0] [⟨v0,.obj [.own 1 v1 1 0 s.l.length,.val (.int .i64 (s.k:Int)),.val (.int .i64 s.ar),.val (.int .i64 s.pt),.val (.bool s.dd),.val (.int .i64 s.wr)]⟩,⟨v1,.bytes s.l⟩] (bY (.val (.bool b)) [⟨v0,.obj [.own 1 v1 1 0 s.l.length,.val (.int .i64 (s.k:Int)),.val (.int .i64 s.ar),.val (.int .i64 s.pt),.val (.bool s.dd),.val (.int .i64 s.wr)]⟩,⟨v1,.bytes s.l⟩]):=by
 subst h
 exact J6 s v0 v1
end Go.Proofs.YtpbpiehcchannaaGreatDoor
