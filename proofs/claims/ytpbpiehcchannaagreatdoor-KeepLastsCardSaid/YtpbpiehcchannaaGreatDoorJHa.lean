/- Rows that nobody writes any more become zones; calls of functions that keep off all rows. Conditions: the premises of each. A function some of whose new rows are the zone 0 behind it, and some stay rows. A row becomes the zone 0 ahead of a call. A row that takes another one's place. A row that takes another one's place, where a third row points to it. Conditions: the premises of each law. -/
import Derived.Test.YtpbpiehcchannaaGreatDoorJAp
namespace Go.Proofs.YtpbpiehcchannaaGreatDoor
set_option linter.unusedVariables false
set_option linter.unusedSimpArgs false
open Go.RowKit
theorem Hv{E E':Env}{w:World}{H:List J}(hr:HR E w H){r ver off n ζ:Nat}{l:List UInt8}(he:H[r]? =some ⟨ver,.bytes l⟩)(hle:off+n≤l.length){v:Value}(h:ae E w (.own r ver 1 off n) v)(hz:∀b,aB E r ⟨ver,.bytes l⟩ b→E'.aC ζ b):ae E' w (.bs ζ ((l.drop off).take n)) v:=by
 simp only[ae] at h⊢
 obtain⟨a,c,rfl,h2,h3,h4,h5⟩:=h.2 (hr.ver r _ he).symm
 refine⟨a,n,c,rfl,by rw[List.length_take,List.length_drop];omega,h2,h3,h4,fun i x hx=> ?_⟩
 have hi:=(List.getElem?_eq_some_iff.1 hx).1
 rw[List.length_take] at hi
 obtain⟨br,rfl,_⟩:=h5.resolve_left (by omega)
 have b9:bN E r ⟨ver,.bytes l⟩:=⟨rfl,br⟩
 obtain⟨cur,T,lo,bP,g1,g2,g3,g4⟩:=(hr.bS r _ he b9).aQ rfl
 have j4:l[off+i]? =some x:=by
  rw[List.getElem?_take] at hx
  split at hx
  ·rw[List.getElem?_drop] at hx;exact hx
  ·cases hx
 obtain⟨cs,k1,k2,k3⟩:=g4 (off+i) [.val (bv x)] (by simp only[Bd.at];rw[j4];rfl)
 simp only[aq,ae] at k2
 obtain⟨u,vs,rfl,rfl,rfl⟩:=k2
 refine⟨_,_,rfl,hz _ (aB.of b9),?_⟩
 rw[cell_of_row w _ _ cur T (lo,bP) g1]
 have:=k3 0 _ rfl
 simp only[Bd.sz,Nat.add_zero,Nat.mul_one] at this⊢
 exact this
theorem Hw {E E' : Env} {w : World} {H : List J} (hr : HR E w H) {r ver sz n ζ : Nat} {α β : Type} {f : α → List AV} {d : α} {l : List α} {g : β → List AV} {d' : β} {ls : List β} (he : H[r]? = some ⟨ver, .row sz f d l⟩) (hn : n = l.length) (hl : ls.length = n)
    (iH:∀(i:Nat)(x:α)(y:β) cs,l[i]? =some x→ls[i]? =some y→aq E w (f x) cs→aq E' w (g y) cs) {v:Value} (h:ae E w (.own r ver sz 0 n) v) (hz:∀b,aB E r ⟨ver,.row sz f d l⟩ b→E'.aC ζ b):ae E' w (.sl ζ sz g d' ls) v:=by
 simp only[ae] at h⊢
 obtain⟨a,c,rfl,h2,h3,h4,h5⟩:=h.2 (hr.ver r _ he).symm
 refine⟨a,n,c,rfl,hl.symm,h2,h3,h4,fun i x hx=> ?_⟩
 have hi:=(List.getElem?_eq_some_iff.1 hx).1
 obtain⟨br,rfl,_⟩:=h5.resolve_left (by omega)
 have b9:bN E r ⟨ver,.row sz f d l⟩:=⟨rfl,br⟩
 obtain⟨cur,T,lo,bP,g1,g2,g3,g4⟩:=(hr.bS r _ he b9).aQ rfl
 have fe:i<l.length:=by omega
 obtain⟨cs,k1,k2,k3⟩:=g4 i (f l[i]) (by simp only[Bd.at];rw[List.getElem?_eq_getElem fe];rfl)
 refine⟨_,_,cs,rfl,hz _ (aB.of b9),k1,iH i _ x cs (List.getElem?_eq_getElem fe) hx k2,fun j u hu=> ?_⟩
 rw[cell_of_row w _ _ cur T (lo,bP) g1,Nat.zero_mul,Nat.zero_add]
 exact k3 j u hu
theorem Hy{E E':Env}{w:World}{H:List J}(hr:HR E w H){r ver i off n ζ:Nat}{ls:List (List UInt8)}{l:List UInt8}(he:H[r]? =some ⟨ver,.az ls⟩)(hl:ls[i]? =some l)(hle:off+n≤l.length){v:Value}(h:ae E w (.pl r ver i off n) v)(hz:∀b,aB E r ⟨ver,.az ls⟩ b→E'.aC ζ b):ae E' w (.bs ζ ((l.drop off).take n)) v:=by
 obtain⟨a,c,rfl,h1,h2,h3,h4⟩:=hr.wL he hl hle rfl h
 rw[ae]
 refine⟨a,n,c,rfl,by rw[List.length_take,List.length_drop];omega,h1,h2,h3,fun j x hx=> ?_⟩
 obtain⟨b,h5,h6,h7⟩:=h4 j x hx
 exact⟨b,off,h6,hz b (.inr ⟨rfl,i,h5⟩),h7⟩
section
variable {hg:Nat→Option J}
end
section
variable {P:Program}
def getM:List (Nat×J)→Nat→Option J
 | [],_=>none
 | (q,e)::l,r=>if Nat.beq q r then some e else getM l r
theorem om{H:List J}:∀{mk:List (Nat×J)},allM H mk→∀{r:Nat}{e:J},getM mk r=some e→H[r]? =some e
 | [],_,r,e,h=>by simp[getM] at h
 | (q,e0)::mk,ha,r,e,h=>by
  simp only[allM] at ha
  simp only[getM] at h
  split at h
  ·rename_i hq
   obtain rfl:=Nat.eq_of_beq_eq_true hq
   cases h
   rw[←cj];exact ha.1
  ·exact om ha.2 h
theorem CG:∀{mk:List (Nat×J)}{r:Nat}{e:J},getM mk r=some e→r∈cn mk
 | [],r,e,h=>by simp[getM] at h
 | (q,e0)::mk,r,e,h=>by
  simp only[getM] at h
  simp only[cn,List.mem_cons]
  split at h
  ·rename_i hq
   exact .inl (Nat.eq_of_beq_eq_true hq).symm
  ·exact .inr (CG h)
structure Fz(mk:List (Nat×J))(E E':Env)(w:World):Prop where
 ext:Ext E E' w w
 fz:∀(r:Nat)(e:J)(b:Nat),getM mk r=some e→aB E r e b→E'.aC 0 b
def AF(mk:List (Nat×J))(x y:AV):Prop:=∀(E E':Env)(H:List J)(w:World)(v:Value),HR E w H→allM H mk→Fz mk E E' w→ae E w x v→ae E' w y v
def aZ(mk:List (Nat×J))(xs ys:List AV):Prop:=∀(E E':Env)(H:List J)(w:World)(vs:List Value),HR E w H→allM H mk→Fz mk E E' w→aq E w xs vs→aq E' w ys vs
section
variable {mk:List (Nat×J)}
theorem aZ.nil:aZ mk [] []:=fun E E' H w vs _ _ _ h=>by simp only[aq] at h⊢;exact h
theorem aZ.cons{x y:AV}{xs ys:List AV}(h:AF mk x y)(k:aZ mk xs ys):aZ mk (x::xs) (y::ys):=fun E E' H w vs hr hh hc hv=>by
 simp only[aq] at hv⊢
 obtain⟨v,dm,h1,h2,h3⟩:=hv
 exact⟨v,dm,h1,h E E' H w v hr hh hc h2,k E E' H w dm hr hh hc h3⟩
theorem AF.same{x:AV}:AF mk x x:=fun E E' H w v _ _ hf h=>fD hf.ext x v h
theorem AF.agg{xs ys:List AV}(h:aZ mk xs ys):AF mk (.agg xs) (.agg ys):=fun E E' H w v hr hh hc hv=>by
 simp only[ae] at hv⊢
 obtain⟨cs,h1,h2⟩:=hv
 exact⟨cs,h1,h E E' H w cs hr hh hc h2⟩
theorem AF.aD{xs ys:List AV}(h:aZ mk xs ys):AF mk (.aD xs) (.aD ys):=fun E E' H w v hr hh hc hv=>by
 simp only[ae] at hv⊢
 obtain⟨cs,h1,h2⟩:=hv
 exact⟨cs,h1,h E E' H w cs hr hh hc h2⟩
theorem AF.nil:AF mk (.val (.slice none 0 0)) (.bs 0 []):=fun E E' H w v hr hh hc hv=>by
 simp only[ae] at hv⊢
 exact⟨none,0,0,hv,rfl,Nat.le_refl _,Nat.zero_le _,fun _=>rfl,fun i x hx=>by simp at hx⟩
theorem AF.CF{r ver off n:Nat}{l:List UInt8}(he:getM mk r=some ⟨ver,.bytes l⟩)(hle:off+n≤l.length):AF mk (.own r ver 1 off n) (.bs 0 ((l.drop off).take n)):=fun E E' H w v hr hh hc hv=>
 Hv hr (om hh he) hle hv fun b hb=>hc.fz r _ b he hb
theorem AF.own{r ver n:Nat}{l:List UInt8}(he:getM mk r=some ⟨ver,.bytes l⟩)(hn:n=l.length):AF mk (.own r ver 1 0 n) (.bs 0 l):=by
 subst hn
 have h:=AF.CF (off:=0) (n:=l.length) he (by omega)
 rw[List.drop_zero,List.take_length] at h
 exact h
theorem AF.OH{r ver i off n:Nat}{ls:List (List UInt8)}{l:List UInt8}(he:getM mk r=some ⟨ver,.az ls⟩)(hl:ls[i]? =some l)(hle:off+n≤l.length):AF mk (.pl r ver i off n) (.bs 0 ((l.drop off).take n)):=fun E E' H w v hr hh hc hv=>
 Hy hr (om hh he) hl hle hv fun b hb=>hc.fz r _ b he hb
theorem AF.pl{r ver i n:Nat}{ls:List (List UInt8)}{l:List UInt8}(he:getM mk r=some ⟨ver,.az ls⟩)(hl:ls[i]? =some l)(hn:n=l.length):AF mk (.pl r ver i 0 n) (.bs 0 l):=by
 subst hn
 have h:=AF.OH (off:=0) (n:=l.length) he hl (by omega)
 rw[List.drop_zero,List.take_length] at h
 exact h
theorem AF.yo {r ver sz n : Nat} {α β : Type} {f : α → List AV} {d : α} {l : List α} {g : β → List AV} {d' : β} {ls : List β} (he : getM mk r = some ⟨ver, .row sz f d l⟩) (hn : n = l.length) (hl : ls.length = n)
    (iH:∀(i:Nat)(x:α)(y:β),l[i]? =some x→ls[i]? =some y→aZ mk (f x) (g y)):AF mk (.own r ver sz 0 n) (.sl 0 sz g d' ls):=fun E E' H w v hr hh hc hv=>
 Hw hr (om hh he) hn hl (fun i x y cs hx hy cA=>iH i x y hx hy E E' H w cs hr hh hc cA) hv fun b hb=>hc.fz r _ b he hb
def BF(mk:List (Nat×J))(b b':Bd):Prop:=b'.live=b.live∧b'.gY=b.gY∧b'.count=b.count∧(∀ls,b'= .az ls→b= .az ls)∧
 ∀(E E':Env)(H:List J)(w:World)(k:Nat),HR E w H→allM H mk→Fz mk E E' w→fm E w k b→fm E' w k b'
theorem BF.same{b:Bd}:BF mk b b:=⟨rfl,rfl,rfl,fun _ h=>h,fun E E' H w k _ _ hf h=>h.ext hf.ext rfl⟩
theorem BF.obj{l l':List AV}(hl:l'.length=l.length)(h:aZ mk l l'):BF mk (.obj l) (.obj l'):=by
 refine⟨rfl,rfl,rfl,(by rintro _ ⟨⟩),fun E E' H w k hr hh hf he=>⟨fun _=> ?_,by rintro _ _ _ ⟨⟩⟩⟩
 obtain⟨cur,T,lo,hi,h1,h2,h3,h4⟩:=he.aQ rfl
 refine⟨cur,T,lo,hi,h1,h2,by simp only[Bd.count,Bd.sz,hl] at h3⊢;exact h3,fun i ys hy=> ?_⟩
 simp only[Bd.at] at hy
 split at hy
 ·rename_i fe
  cases hy
  obtain⟨cs,k1,k2,k3⟩:=h4 i l (by simp[Bd.at,fe])
  simp only[Bd.sz,hl] at k1 k3⊢
  exact⟨cs,k1,h E E' H w cs hr hh hf k2,k3⟩
 ·cases hy
def oo(mk:List (Nat×J)):List J→List J→Prop
 | [],[]=>True
 | e::l,e'::l'=>e'.ver=e.ver∧BF mk e.bd e'.bd∧oo mk l l'
 | _,_=>False
theorem oo.get:∀{l l':List J},oo mk l l'→l'.length=l.length∧∀(r:Nat)(e':J),l'[r]? =some e'→∃e,l[r]? =some e∧e'.ver=e.ver∧BF mk e.bd e'.bd
 | [],[],_=>⟨rfl,fun r e' h=>by simp at h⟩
 | e::l,e'::l',h=>by
  simp only[oo] at h
  obtain⟨h1,h2,h3⟩:=h
  obtain⟨g1,g2⟩:=oo.get h3
  refine⟨by simp[g1],fun r x hx=> ?_⟩
  cases r with
  | zero=>simp only[List.getElem?_cons_zero,Option.some.injEq] at hx;subst hx;exact⟨e,rfl,h1,h2⟩
  | succ r=>simpa using g2 r x (by simpa using hx)
 | [],_::_,h=>by simp only[oo] at h
 | _::_,[],h=>by simp only[oo] at h
end
theorem ix{f:FuncId}{args:List AV}{H0:List J}{X X':AV}{rows rows':List J}{mk:List (Nat×J)}(S:Spec P f args H0 (ak X rows mk))(gh:eM rows.length mk)(hX:AF mk X X')(hR:oo mk rows rows'):Spec P f args H0 (ak X' rows' []):=by
 intro w E cargs hr cg
 refine Calls.mono (S w E cargs hr cg) fun e w'⟨v,x,H1,E1,he,lC,hv,cd,X1,mc,sd,me,cM⟩=> ?_
 obtain⟨tl,rfl,rfl,jA⟩:=lC
 obtain⟨hlen,aI⟩:=hR.get
 have jc:∀{q:Nat}{e:J},getM mk q=some e→(rows++tl)[q]? =some e∧rows.length≤q:=fun{q e} h=>⟨om jA h,Bv gh q (CG h)⟩
 obtain⟨E',aN⟩:∃E':Env,E'={E1 with aC:=fun z b=>E1.aC z b∨(z=0∧∃q e,getM mk q=some e∧aB E1 q e b)}:=⟨_,rfl⟩
 have Xt:Ext E1 E' w' w':=by
  subst aN
  exact⟨fun _=>Nat.le_refl _,fun _ _=>rfl,fun _ _=>Iff.rfl,fun z b h=> .inl h,fun _ _ _=>rfl,fun k cur T fz h=>⟨cur,T,fz,h,Nat.le_refl _⟩,fun _ _ _ _ h=>h⟩
 have F:Fz mk E1 E' w':=⟨Xt,fun r e b h hb=>by subst aN;exact .inr ⟨rfl,r,e,h,hb⟩⟩
 obtain⟨H',dN⟩:∃H':List J,H'=rows'++tl.map fun e=>⟨e.ver,.dead⟩:=⟨_,rfl⟩
 have get:∀(r:Nat)(e:J),H'[r]? =some e→∃e0:J,(rows++tl)[r]? =some e0∧e.ver=e0.ver∧((r<rows.length∧BF mk e0.bd e.bd)∨e=⟨e0.ver,.dead⟩):=by
  intro r e h
  rw[dN,List.getElem?_append] at h
  split at h
  ·rename_i ah
   obtain⟨e0,h1,h2,h3⟩:=aI r e h
   exact⟨e0,by rw[List.getElem?_append_left (by omega)];exact h1,h2,.inl ⟨by omega,h3⟩⟩
  ·rename_i CH
   rw[List.getElem?_map,Option.map_eq_some_iff] at h
   obtain⟨e0,h1,rfl⟩:=h
   exact⟨e0,by rw[List.getElem?_append_right (by omega),←hlen];exact h1,rfl,.inr rfl⟩
 have hblk:∀(r:Nat)(e:J)(b:Nat),H'[r]? =some e→aB E' r e b→∃e0:J,(rows++tl)[r]? =some e0∧aB E1 r e0 b∧r<rows.length∧BF mk e0.bd e.bd:=by
  intro r e b h hb
  obtain⟨e0,h1,h2,h3⟩:=get r e h
  rcases h3 with⟨h4,h3⟩ | rfl
  ·refine⟨e0,h1,?_,h4,h3⟩
   obtain⟨g1,g2,_⟩:=h3
   rcases hb with⟨⟨q1,q2⟩,q3⟩ | ⟨q1,i,q2⟩
   ·exact .inl ⟨⟨g1▸q1,by subst aN;exact q2⟩,by subst aN;exact q3⟩
   ·exact .inr ⟨g2▸q1,i,by subst aN;exact q2⟩
  ·exact absurd hb aB.dead
 have iz:∀(r r':Nat)(e e':J)(b:Nat),(rows++tl)[r]? =some e→(rows++tl)[r']? =some e'→aB E1 r e b→aB E1 r' e' b→r=r':=cd.inj
 refine⟨v,X',H',E',he,⟨tl.map fun e=>⟨e.ver,.dead⟩,rfl,dN,trivial⟩,hX E1 E' _ w' v cd jA F hv,?_,X1.trans Xt,fun z b h=> ?_,?_,fun r e b h hb=> ?_,?_⟩
 ·refine⟨fun r e h=> ?_,fun r e h hl=> ?_,fun r e h ha=> ?_,fun r r' e e' b h h' hl bA=> ?_,fun z b h=> ?_,fun r e b h hl z pz=> ?_,fun r h=> ?_,cd.gl.ext Xt,fun r u ls h=> ?_⟩
  ·obtain⟨e0,h1,h2,_⟩:=get r e h
   rw[h2,←cd.ver r e0 h1];subst aN;rfl
  ·obtain⟨e0,h1,h2,h3⟩:=get r e h
   rcases h3 with⟨h4,g1,g2,g3,g4,g5⟩ | rfl
   ·have gJ:bN E1 r e0:=⟨g1▸hl.1,by have:=hl.2;subst aN;exact this⟩
    have:=g5 E1 E' _ w' _ cd jA F (cd.bS r e0 h1 gJ)
    rw[show E'.ρ r=E1.ρ r by subst aN;rfl];exact this
   ·cases hl.1
  ·obtain⟨e0,h1,h2,h3⟩:=get r e h
   rcases h3 with⟨h4,g1,g2,g3,g4,g5⟩ | rfl
   ·rw[g3];exact cd.abs r e0 h1 (by subst aN;exact ha)
   ·rfl
  ·obtain⟨e0,h1,h2,_⟩:=hblk r e b h hl
   obtain⟨e1,h3,h4,_⟩:=hblk r' e' b h' bA
   exact iz r r' e0 e1 b h1 h3 h2 h4
  ·subst aN
   rcases h with h | ⟨rfl,q,e,h1,h2⟩
   ·exact cd.cX z b h
   ·exact cd.blt (jc h1).1 h2
  ·obtain⟨e0,h1,h2,h3,_⟩:=hblk r e b h hl
   have h0:=cd.dC r e0 b h1 h2
   subst aN
   rcases pz with pz | ⟨rfl,q,e,g1,g2⟩
   ·exact h0 z pz
   ·have:=iz r q e0 e b h1 (jc g1).1 h2 g2
    have:=(jc g1).2
    omega
  ·have:=cd.top r (by rw[dN] at h;simp only[List.length_append,List.length_map] at h⊢;omega)
   subst aN;exact this
  ·obtain⟨e0,h1,h2,h3⟩:=get r _ h
   rcases h3 with⟨h4,g1,g2,g3,g4,g5⟩ | h3
   ·have e1:=g4 ls rfl
    have:=cd.az r e0.ver ls (by rw[h1,←e1])
    subst aN;exact this
   ·cases h3
 ·subst aN
  rcases h with h | ⟨rfl,q,e,g1,g2⟩
  ·exact mc z b h
  ·exact .inr (me q e b (jc g1).1 g2)
 ·rw[dN];simp only[List.length_append,List.length_map] at sd⊢;omega
 ·obtain⟨e0,h1,h2,_⟩:=hblk r e b h hb
  exact me r e0 b h1 h2
 ·refine⟨cM.os,cM.tape,cM.output,cM.size,cM.block,cM.grow,fun r e b h hb=> ?_⟩
  obtain⟨e0,h1,h2,_⟩:=hblk r e b h hb
  exact cM.rows r e0 b h1 h2
end
section
variable {P:Program}
def pA(mk:List (Nat×J)):List (Nat×J)→Prop
 | []=>True
 | (q,e)::l=>getM mk q=some e∧pA mk l
theorem pA.get{mk:List (Nat×J)}:∀{l:List (Nat×J)},pA mk l→∀{q:Nat}{e:J},getM l q=some e→getM mk q=some e
 | [],_,q,e,h=>by simp[getM] at h
 | (r,e0)::l,h,q,e,k=>by
  simp only[pA] at h
  simp only[getM] at k
  split at k
  ·rename_i hq
   obtain rfl:=Nat.eq_of_beq_eq_true hq
   cases k
   exact h.1
  ·exact h.2.get k
theorem pA.all{mk:List (Nat×J)}{H:List J}(ha:allM H mk):∀{l:List (Nat×J)},pA mk l→allM H l
 | [],_=>trivial
 | (r,e0)::l,h=>by
  simp only[pA] at h
  exact⟨by rw[cj];exact om ha h.1,h.2.all ha⟩
def pB(mk fz:List (Nat×J))(K:List (Nat×J)):List (Nat×J)→Prop
 | []=>True
 | (q,e)::l=>(∃e0,getM mk q=some e0∧e.ver=e0.ver∧BF fz e0.bd e.bd∧getM fz q=none∧getM K q=some e)∧pB mk fz K l
theorem pB.get{mk fz K:List (Nat×J)}:∀{l:List (Nat×J)},pB mk fz K l→∀{q:Nat}{e:J},getM l q=some e→∃e0,getM mk q=some e0∧e.ver=e0.ver∧BF fz e0.bd e.bd∧getM fz q=none
 | [],_,q,e,h=>by simp[getM] at h
 | (r,e0)::l,h,q,e,k=>by
  simp only[pB] at h
  simp only[getM] at k
  split at k
  ·rename_i hq
   obtain rfl:=Nat.eq_of_beq_eq_true hq
   cases k
   obtain⟨e0,h1,h2,h3,h4,_⟩:=h.1
   exact⟨e0,h1,h2,h3,h4⟩
  ·exact h.2.get k
theorem pB.all{mk fz K:List (Nat×J)}{H:List J}(hH:∀(q:Nat)(e e0:J),getM mk q=some e0→getM K q=some e→H[q]? =some e):∀{l:List (Nat×J)},pB mk fz K l→allM H l
 | [],_=>trivial
 | (r,e0)::l,h=>by
  simp only[pB] at h
  obtain⟨e1,h1,_,_,_,h5⟩:=h.1
  exact⟨by rw[cj];exact hH r e0 e1 h1 h5,h.2.all hH⟩
theorem OI{f:FuncId}{args:List AV}{H0:List J}{X X':AV}{rows rows':List J}{mk:List (Nat×J)}(fz K:List (Nat×J))(S:Spec P f args H0 (ak X rows mk))(gh:eM rows.length mk)(hf:pA mk fz)(hK:pB mk fz K K)(hX:AF fz X X')(hR:oo fz rows rows'):Spec P f args H0 (ak X' rows' K):=by
 intro w E cargs hr cg
 refine Calls.mono (S w E cargs hr cg) fun e w'⟨v,x,H1,E1,he,lC,hv,cd,X1,mc,sd,me,cM⟩=> ?_
 obtain⟨tl,rfl,rfl,jA⟩:=lC
 obtain⟨hlen,aI⟩:=hR.get
 have jc:∀{q:Nat}{e:J},getM mk q=some e→(rows++tl)[q]? =some e∧rows.length≤q:=fun{q e} h=>⟨om jA h,Bv gh q (CG h)⟩
 have Hz:=hf.all jA
 obtain⟨E',aN⟩:∃E':Env,E'={E1 with aC:=fun z b=>E1.aC z b∨(z=0∧∃q e,getM fz q=some e∧aB E1 q e b)}:=⟨_,rfl⟩
 have Xt:Ext E1 E' w' w':=by
  subst aN
  exact⟨fun _=>Nat.le_refl _,fun _ _=>rfl,fun _ _=>Iff.rfl,fun z b h=> .inl h,fun _ _ _=>rfl,fun k cur T fz h=>⟨cur,T,fz,h,Nat.le_refl _⟩,fun _ _ _ _ h=>h⟩
 have F:Fz fz E1 E' w':=⟨Xt,fun r e b h hb=>by subst aN;exact .inr ⟨rfl,r,e,h,hb⟩⟩
 obtain⟨vK,CI⟩:∃vK:List J,vK=tl.mapIdx fun j e=>match getM K (rows.length+j) with | some e'=>e' | none=>⟨e.ver,.dead⟩:=⟨_,rfl⟩
 have HA:vK.length=tl.length:=by rw[CI,List.length_mapIdx]
 obtain⟨H',dN⟩:∃H':List J,H'=rows'++vK:=⟨_,rfl⟩
 have get:∀(r:Nat)(e:J),H'[r]? =some e→∃e0:J,(rows++tl)[r]? =some e0∧e.ver=e0.ver∧((getM fz r=none∧BF fz e0.bd e.bd)∨e=⟨e0.ver,.dead⟩):=by
  intro r e h
  rw[dN,List.getElem?_append] at h
  split at h
  ·rename_i ah
   obtain⟨e0,h1,h2,h3⟩:=aI r e h
   refine⟨e0,by rw[List.getElem?_append_left (by omega)];exact h1,h2,.inl ⟨?_,h3⟩⟩
   cases q:getM fz r with
   | none=>rfl
   | some e1=>have:=(jc (hf.get q)).2;omega
  ·rename_i CH
   rw[CI,List.getElem?_mapIdx,Option.map_eq_some_iff] at h
   obtain⟨e0,h1,h2⟩:=h
   have hr:rows.length+(r - rows'.length)=r:=by omega
   rw[hr] at h2
   have oq:(rows++tl)[r]? =some e0:=by rw[List.getElem?_append_right (by omega),←hlen];exact h1
   cases q:getM K r with
   | none=>
    rw[q] at h2
    cases h2
    exact⟨e0,oq,rfl,.inr rfl⟩
   | some e'=>
    rw[q] at h2
    cases h2
    obtain⟨e1,k1,k2,k3,k4⟩:=hK.get q
    have:=(jc k1).1
    rw[oq] at this
    obtain rfl:=Option.some.inj this
    exact⟨e0,oq,k2,.inl ⟨k4,k3⟩⟩
 have hblk:∀(r:Nat)(e:J)(b:Nat),H'[r]? =some e→aB E' r e b→∃e0:J,(rows++tl)[r]? =some e0∧aB E1 r e0 b∧getM fz r=none∧BF fz e0.bd e.bd:=by
  intro r e b h hb
  obtain⟨e0,h1,h2,h3⟩:=get r e h
  rcases h3 with⟨h4,h3⟩ | rfl
  ·refine⟨e0,h1,?_,h4,h3⟩
   obtain⟨g1,g2,_⟩:=h3
   rcases hb with⟨⟨q1,q2⟩,q3⟩ | ⟨q1,i,q2⟩
   ·exact .inl ⟨⟨g1▸q1,by subst aN;exact q2⟩,by subst aN;exact q3⟩
   ·exact .inr ⟨g2▸q1,i,by subst aN;exact q2⟩
  ·exact absurd hb aB.dead
 have iz:∀(r r':Nat)(e e':J)(b:Nat),(rows++tl)[r]? =some e→(rows++tl)[r']? =some e'→aB E1 r e b→aB E1 r' e' b→r=r':=cd.inj
 have OJ:allM H' K:=hK.all fun q e e0 k1 k2=>by
  obtain⟨g1,g2⟩:=jc k1
  rw[List.getElem?_append_right g2] at g1
  rw[dN,List.getElem?_append_right (by omega),CI,List.getElem?_mapIdx,hlen,g1,show rows.length+(q - rows.length)=q by omega,k2]
  rfl
 refine⟨v,X',H',E',he,⟨vK,rfl,dN,OJ⟩,hX E1 E' _ w' v cd Hz F hv,?_,X1.trans Xt,fun z b h=> ?_,?_,fun r e b h hb=> ?_,?_⟩
 ·refine⟨fun r e h=> ?_,fun r e h hl=> ?_,fun r e h ha=> ?_,fun r r' e e' b h h' hl bA=> ?_,fun z b h=> ?_,fun r e b h hl z pz=> ?_,fun r h=> ?_,cd.gl.ext Xt,fun r u ls h=> ?_⟩
  ·obtain⟨e0,h1,h2,_⟩:=get r e h
   rw[h2,←cd.ver r e0 h1];subst aN;rfl
  ·obtain⟨e0,h1,h2,h3⟩:=get r e h
   rcases h3 with⟨h4,g1,g2,g3,g4,g5⟩ | rfl
   ·have gJ:bN E1 r e0:=⟨g1▸hl.1,by have:=hl.2;subst aN;exact this⟩
    have:=g5 E1 E' _ w' _ cd Hz F (cd.bS r e0 h1 gJ)
    rw[show E'.ρ r=E1.ρ r by subst aN;rfl];exact this
   ·cases hl.1
  ·obtain⟨e0,h1,h2,h3⟩:=get r e h
   rcases h3 with⟨h4,g1,g2,g3,g4,g5⟩ | rfl
   ·rw[g3];exact cd.abs r e0 h1 (by subst aN;exact ha)
   ·rfl
  ·obtain⟨e0,h1,h2,_⟩:=hblk r e b h hl
   obtain⟨e1,h3,h4,_⟩:=hblk r' e' b h' bA
   exact iz r r' e0 e1 b h1 h3 h2 h4
  ·subst aN
   rcases h with h | ⟨rfl,q,e,h1,h2⟩
   ·exact cd.cX z b h
   ·exact cd.blt (jc (hf.get h1)).1 h2
  ·obtain⟨e0,h1,h2,h3,_⟩:=hblk r e b h hl
   have h0:=cd.dC r e0 b h1 h2
   subst aN
   rcases pz with pz | ⟨rfl,q,e,g1,g2⟩
   ·exact h0 z pz
   ·have OK:=iz r q e0 e b h1 (jc (hf.get g1)).1 h2 g2
    subst OK
    rw[h3] at g1
    cases g1
  ·have:=cd.top r (by rw[dN] at h;simp only[List.length_append,HA] at h⊢;omega)
   subst aN;exact this
  ·obtain⟨e0,h1,h2,h3⟩:=get r _ h
   rcases h3 with⟨h4,g1,g2,g3,g4,g5⟩ | h3
   ·have e1:=g4 ls rfl
    have:=cd.az r e0.ver ls (by rw[h1,←e1])
    subst aN;exact this
   ·cases h3
 ·subst aN
  rcases h with h | ⟨rfl,q,e,g1,g2⟩
  ·exact mc z b h
  ·exact .inr (me q e b (jc (hf.get g1)).1 g2)
 ·rw[dN];simp only[List.length_append,HA] at sd⊢;omega
 ·obtain⟨e0,h1,h2,_⟩:=hblk r e b h hb
  exact me r e0 b h1 h2
 ·refine⟨cM.os,cM.tape,cM.output,cM.size,cM.block,cM.grow,fun r e b h hb=> ?_⟩
  obtain⟨e0,h1,h2,_⟩:=hblk r e b h hb
  exact cM.rows r e0 b h1 h2
end
theorem Out.OL{E:Env}{w:World}{H:List J}(hR:HR E w H){r:Nat}{er:J}(hr:H[r]? =some er):∃E',Out E E' w w H [(r,⟨er.ver,.dead⟩)]∧Fz [(r,er)] E E' w:=by
 obtain⟨E',aN⟩:∃E':Env,E'={E with aC:=fun z b=>E.aC z b∨(z=0∧aB E r er b)}:=⟨_,rfl⟩
 have X:Ext E E' w w:=by
  subst aN
  exact⟨fun _=>Nat.le_refl _,fun _ _=>rfl,fun _ _=>Iff.rfl,fun z b h=> .inl h,fun _ _ _=>rfl,fun k cur T fz h=>⟨cur,T,fz,h,Nat.le_refl _⟩,fun _ _ _ _ h=>h⟩
 have F:Fz [(r,er)] E E' w:=⟨X,fun q' e b h hb=>by
  unfold getM at h
  split at h
  ·rename_i uR
   obtain rfl:=Nat.eq_of_beq_eq_true uR
   obtain rfl:=Option.some.inj h
   subst aN;exact .inr ⟨rfl,hb⟩
  ·cases h⟩
 have aI:∀(k:Nat)(e':J),(aM H [(r,⟨er.ver,.dead⟩)])[k]? =some e'→(k=r∧e'=⟨er.ver,.dead⟩)∨(k≠r∧H[k]? =some e'):=by
  intro k e' h
  have h2:(aJ H r ⟨er.ver,.dead⟩)[k]? =some e':=h
  rw[bK,List.getElem?_set] at h2
  by_cases h1:r=k
  ·subst h1
   rw[if_pos rfl,if_pos (List.getElem?_eq_some_iff.1 hr).1] at h2
   exact .inl ⟨rfl,(Option.some.inj h2).symm⟩
  ·rw[if_neg h1] at h2
   exact .inr ⟨Ne.symm h1,h2⟩
 have hblk:∀(k:Nat)(e':J)(b:Nat),(aM H [(r,⟨er.ver,.dead⟩)])[k]? =some e'→aB E' k e' b→k≠r∧H[k]? =some e'∧aB E k e' b:=by
  intro k e' b h jj
  rcases aI k e' h with⟨rfl,rfl⟩ | ⟨q1,q3⟩
  ·exact absurd jj aB.dead
  ·refine⟨q1,q3,?_⟩
   rcases jj with⟨⟨h1,h2⟩,h3⟩ | ⟨h1,i,h2⟩
   ·exact .inl ⟨⟨h1,by subst aN;exact h2⟩,by subst aN;exact h3⟩
   ·exact .inr ⟨h1,i,by subst aN;exact h2⟩
 have hlen:(aM H [(r,⟨er.ver,.dead⟩)]).length=H.length:=by
  show(aJ H r ⟨er.ver,.dead⟩).length=_
  rw[bK,List.length_set]
 refine⟨E',⟨X,⟨fun k e' h=> ?_,fun k e' h hl=> ?_,fun k e' h ha=> ?_,fun k k' e1 e2 b h h' hl bA=> ?_,fun z b h=> ?_,fun k e' b h hl z hz=> ?_,fun k h=> ?_,hR.gl.ext X,fun k u ls h=> ?_⟩,rfl,rfl,rfl,Nat.le_refl _,fun z b h=> ?_,fun _ cur T fz h=>⟨cur,T,fz,h,Nat.le_refl _⟩,fun _ _ _=>rfl,fun k e' b h hl=> ?_⟩,F⟩
 ·have hv:E'.ver k=E.ver k:=by subst aN;rfl
  rw[hv]
  rcases aI k e' h with⟨rfl,rfl⟩ | ⟨q1,q3⟩
  ·exact hR.ver _ er hr
  ·exact hR.ver k e' q3
 ·have OM:E'.ρ k=E.ρ k:=by subst aN;rfl
  have uZ:¬E.abs k:=by have:=hl.2;subst aN;exact this
  rw[OM]
  rcases aI k e' h with⟨rfl,rfl⟩ | ⟨q1,q3⟩
  ·cases hl.1
  ·exact(hR.bS k e' q3 ⟨hl.1,uZ⟩).ext X rfl
 ·have ON:E.abs k:=by subst aN;exact ha
  rcases aI k e' h with⟨rfl,rfl⟩ | ⟨q1,q3⟩
  ·rfl
  ·exact hR.abs k e' q3 ON
 ·obtain⟨_,a2,a3⟩:=hblk k e1 b h hl
  obtain⟨_,b2,b3⟩:=hblk k' e2 b h' bA
  exact hR.inj k k' e1 e2 b a2 b2 a3 b3
 ·subst aN
  rcases h with h | ⟨rfl,h⟩
  ·exact hR.cX z b h
  ·exact hR.blt hr h
 ·obtain⟨hk,a2,a3⟩:=hblk k e' b h hl
  have h0:=hR.dC k e' b a2 a3
  subst aN
  rcases hz with hz | ⟨rfl,hz⟩
  ·exact h0 z hz
  ·exact hk (hR.inj k r e' er b a2 hr a3 hz)
 ·have:=hR.top k (by rw[hlen] at h;exact h)
  subst aN;exact this
 ·rcases aI k _ h with⟨_,h2⟩ | ⟨_,h2⟩
  ·cases h2
  ·have:=hR.az k u ls h2
   subst aN;exact this
 ·subst aN
  rcases h with h | ⟨rfl,h⟩
  ·exact .inl h
  ·exact .inr (.inr ⟨r,er,hr,h⟩)
 ·obtain⟨_,a2,a3⟩:=hblk k e' b h hl
  exact .inr ⟨k,e',a2,a3,.inl rfl⟩
def CJ(hg:Nat→Option J)(r:Nat)(v:Nat)(q:Nat):Option J:=match Nat.beq q r with
 | true=>some ⟨v,.dead⟩
 | false=>hg q
theorem yp {P : Program} {f : FuncId} {args args' : List AV} {hg : Nat → Option J} {K : AV → List (Nat × J) → Prop} (r : Nat) {er : J} (he : hg r = some er) (ha : aZ [(r, er)] args args')
    (h:eZ P (.clo f []) args' (CJ hg r er.ver) fun v us=>K v ((r,⟨er.ver,.dead⟩)::us)):eZ P (.clo f []) args hg K:=by
 unfold eZ at h⊢
 obtain⟨f',caps,hf,post,S,hK⟩:=h
 injection hf with tX tY
 subst tX;subst tY
 refine⟨f,[],rfl,K,fun E H w cargs hr hh cg=> ?_,fun _ _ h=>h⟩
 have hH:=hh r er he
 obtain⟨E1,O1,F⟩:=Out.OL hr hH
 rw[List.append_nil] at cg
 have OO:=ha E E1 H w cargs hr ⟨by rw[cj];exact hH,trivial⟩ F cg
 have zw:∀(q:Nat)(e:J),CJ hg r er.ver q=some e→(aM H [(r,⟨er.ver,.dead⟩)])[q]? =some e:=by
  intro q e h
  show(aJ H r ⟨er.ver,.dead⟩)[q]? =some e
  rw[bK,List.getElem?_set]
  unfold CJ at h
  split at h<;>rename_i hb
  ·obtain rfl:=Nat.eq_of_beq_eq_true hb
   rw[if_pos rfl,if_pos (List.getElem?_eq_some_iff.1 hH).1];exact h
  ·rw[if_neg (by rintro rfl;rw[Nat.beq_refl] at hb;cases hb)]
   exact hh q e h
 rw[List.append_nil] at S
 refine(S E1 _ w cargs O1.hr zw OO).mono fun v w'⟨y,us,E',hp,hv,O⟩=> ?_
 exact⟨_,_,E',hK y us hp,hv,O1.trans O⟩
def sT(q vq p v':Nat):List AV→List AV→Prop
 | [],[]=>True
 | x::xs,y::ys=>(y= .any∨x=y∨(∃sz i j,x= .ref q vq sz i j∧y= .ref p v' sz i j)∨(∃sz o n,x= .own q vq sz o n∧y= .own p v' sz o n))∧sT q vq p v' xs ys
 | _,_=>False
theorem CK{q vq p v':Nat}:∀{xs ys:List AV},sT q vq p v' xs ys→xs.length=ys.length∧∀(i:Nat) y,ys[i]? =some y→y= .any∨∃x,xs[i]? =some x∧(x=y∨(∃sz i j,x= .ref q vq sz i j∧y= .ref p v' sz i j)∨(∃sz o n,x= .own q vq sz o n∧y= .own p v' sz o n))
 | [],[],_=>⟨rfl,by simp⟩
 | [],_::_,h=>h.elim
 | _::_,[],h=>h.elim
 | x::xs,y::ys,h=>by
  obtain⟨h1,h2⟩:=CK h.2
  refine⟨by simp[h1],fun i z hz=> ?_⟩
  cases i with
  | zero=>
   simp at hz;subst hz
   rcases h.1 with h | h | h
   ·exact .inl h
   ·exact .inr ⟨x,rfl,.inl h⟩
   ·exact .inr ⟨x,rfl,.inr h⟩
  | succ i=>simpa using h2 i z (by simpa using hz)
theorem yq{s:St}{t':List AV}(q p v':Nat){e:J}{vq:Nat}{bd:Bd}(hq:bb s.H q=some ⟨vq,bd⟩)(hp:bb s.H p=some e)(aG:Nat.beq p q=false)(hv:e.ver<v')(hb:bd.gY=false)(ht:sT q vq p v' s.t t'):iD s ⟨t',aJ (aJ s.H q ⟨vq,.dead⟩) p ⟨v',bd⟩⟩:=by
 intro w0 keep E a w hR
 have OP:p≠q:=fun h=>by rw[h,Nat.beq_refl] at aG;cases aG
 rw[cj] at hq hp
 obtain⟨h1,h2⟩:=CK ht
 have c8:=(List.getElem?_eq_some_iff.1 hp).1
 have CL:=(List.getElem?_eq_some_iff.1 hq).1
 have OQ:=hR.hr.ver p e hp
 have pC:E.ver q=vq:=hR.hr.ver q _ hq
 obtain⟨E',aN⟩:∃E':Env,E'={E with ρ:=fun k=>if k=p then E.ρ q else E.ρ k,ver:=fun k=>if k=p then v' else E.ver k,abs:=fun k=>if k=p then E.abs q else E.abs k}:=⟨_,rfl⟩
 have ev:E'.ver p=v':=by subst aN;simp
 have ja:∀k,k≠p→E'.ver k=E.ver k:=by intro k hk;subst aN;simp[hk]
 have ea:E'.abs p↔E.abs q:=by subst aN;simp
 have gQ:∀k,k≠p→(E'.abs k↔E.abs k):=by intro k hk;subst aN;simp[hk]
 have er:E'.ρ p=E.ρ q:=by subst aN;simp
 have pD:∀k,k≠p→E'.ρ k=E.ρ k:=by intro k hk;subst aN;simp[hk]
 have ez:∀z b,E'.aC z b↔E.aC z b:=by intro z b;subst aN;exact Iff.rfl
 have qU:E'.pl=E.pl:=by subst aN;rfl
 have X:Ext E E' w w:=by
  refine⟨fun k=> ?_,fun k hk=> ?_,fun k hk=> ?_,fun z b h=>(ez z b).2 h,fun _ _ _=>rfl,fun k cur T fz h=>⟨cur,T,fz,h,Nat.le_refl _⟩,fun _ _ _ _ h=>by rw[qU];exact h⟩
  ·by_cases h:k=p
   ·subst h;omega
   ·rw[ja k h];exact Nat.le_refl _
  ·by_cases h:k=p
   ·subst h;omega
   ·exact pD k h
  ·by_cases h:k=p
   ·subst h;omega
   ·exact gQ k h
 have hlen:(aJ (aJ s.H q ⟨vq,.dead⟩) p ⟨v',bd⟩).length=s.H.length:=by rw[bK,List.length_set,bK,List.length_set]
 have aI:∀(k:Nat)(e':J),(aJ (aJ s.H q ⟨vq,.dead⟩) p ⟨v',bd⟩)[k]? =some e'→(k=p∧e'=⟨v',bd⟩)∨(k≠p∧k=q∧e'=⟨vq,.dead⟩)∨(k≠p∧k≠q∧s.H[k]? =some e'):=by
  intro k e' h
  rw[bK,List.getElem?_set] at h
  by_cases h1:p=k
  ·subst h1
   rw[if_pos rfl,if_pos (by rw[bK,List.length_set];exact c8)] at h
   exact .inl ⟨rfl,(Option.some.inj h).symm⟩
  ·rw[if_neg h1,bK,List.getElem?_set] at h
   by_cases h2:q=k
   ·subst h2
    rw[if_pos rfl,if_pos CL] at h
    exact .inr (.inl ⟨Ne.symm h1,rfl,(Option.some.inj h).symm⟩)
   ·rw[if_neg h2] at h
    exact .inr (.inr ⟨Ne.symm h1,Ne.symm h2,h⟩)
 have b9:∀(k:Nat)(e':J),(aJ (aJ s.H q ⟨vq,.dead⟩) p ⟨v',bd⟩)[k]? =some e'→bN E' k e'→(k=p∧e'=⟨v',bd⟩∧bN E q ⟨vq,bd⟩)∨(k≠p∧k≠q∧s.H[k]? =some e'∧bN E k e'):=by
  intro k e' h hl
  rcases aI k e' h with⟨rfl,rfl⟩ | ⟨q1,rfl,rfl⟩ | ⟨q1,q2,q3⟩
  ·exact .inl ⟨rfl,rfl,hl.1,fun h=>hl.2 (ea.2 h)⟩
  ·cases hl.1
  ·exact .inr ⟨q1,q2,q3,hl.1,fun h=>hl.2 ((gQ k q1).2 h)⟩
 have hblk:∀(k:Nat)(e':J)(b:Nat),(aJ (aJ s.H q ⟨vq,.dead⟩) p ⟨v',bd⟩)[k]? =some e'→aB E' k e' b→(k=p∧aB E q ⟨vq,bd⟩ b)∨(k≠p∧k≠q∧s.H[k]? =some e'∧aB E k e' b):=by
  intro k e' b h jj
  rcases jj with⟨hl,h3⟩ | ⟨h3,h4⟩
  ·rcases b9 k e' h hl with⟨rfl,rfl,q3⟩ | ⟨q1,q2,q3,q4⟩
   ·exact .inl ⟨rfl,.inl ⟨q3,by rwa [er] at h3⟩⟩
   ·exact .inr ⟨q1,q2,q3,.inl ⟨q4,by rwa [pD k q1] at h3⟩⟩
  ·rcases aI k e' h with⟨rfl,rfl⟩ | ⟨q1,rfl,rfl⟩ | ⟨q1,q2,q3⟩
   ·rw[show(⟨v',bd⟩:J).bd.gY=bd.gY from rfl,hb] at h3;cases h3
   ·cases h3
   ·exact .inr ⟨q1,q2,q3,.inr ⟨h3,by rw[qU] at h4;exact h4⟩⟩
 refine⟨E',⟨by rw[←h1];exact hR.len,fun i y hy=> ?_,⟨hR.defers.1,hR.defers.2.ext X⟩,⟨?_,?_,?_,?_,?_,?_,?_,hR.hr.gl.ext X,?_⟩,⟨hR.fr.os,hR.fr.tape,hR.fr.output,hR.fr.size,hR.fr.block,hR.fr.grow,?_⟩,hR.ext.trans X,fun z b h=>hR.aC z b ((ez z b).1 h),?_⟩⟩
 ·rcases h2 i y hy with rfl | ⟨x,hx,rfl | ⟨sz,i0,j0,rfl,rfl⟩ | ⟨sz,o,n,rfl,rfl⟩⟩
  ·simp only[ae]
  ·exact fD X _ _ (hR.tmps i _ hx)
  ·have h0:=hR.tmps i _ hx
   rw[ae] at h0⊢
   refine⟨by omega,fun _=> ?_⟩
   rw[er]
   exact h0.2 pC.symm
  ·have h0:=hR.tmps i _ hx
   rw[ae] at h0⊢
   refine⟨by omega,fun _=> ?_⟩
   rw[er,ea]
   exact h0.2 pC.symm
 ·intro k e' h
  rcases aI k e' h with⟨rfl,rfl⟩ | ⟨q1,rfl,rfl⟩ | ⟨q1,q2,q3⟩
  ·exact ev
  ·rw[ja k q1];exact pC
  ·rw[ja k q1];exact hR.hr.ver k e' q3
 ·intro k e' h hl
  rcases b9 k e' h hl with⟨rfl,rfl,q3⟩ | ⟨q1,q2,q3,q4⟩
  ·rw[er];exact(hR.hr.bS q _ hq q3).ext X rfl
  ·rw[pD k q1];exact(hR.hr.bS k e' q3 q4).ext X rfl
 ·intro k e' h ha
  rcases aI k e' h with⟨rfl,rfl⟩ | ⟨q1,rfl,rfl⟩ | ⟨q1,q2,q3⟩
  ·exact hR.hr.abs q ⟨vq,bd⟩ hq (ea.1 ha)
  ·rfl
  ·exact hR.hr.abs k e' q3 ((gQ k q1).1 ha)
 ·intro k k' e1 e2 b h h' hl bA
  rcases hblk k e1 b h hl with⟨q1,q2⟩ | ⟨q1,q2,q3,q4⟩<;>rcases hblk k' e2 b h' bA with⟨r1,r2⟩ | ⟨r1,r2,r3,r4⟩
  ·rw[q1,r1]
  ·exact absurd (hR.hr.inj q k' _ e2 b hq r3 q2 r4) (Ne.symm r2)
  ·exact absurd (hR.hr.inj k q e1 _ b q3 hq q4 r2) q2
  ·exact hR.hr.inj k k' e1 e2 b q3 r3 q4 r4
 ·exact fun z b h=>hR.hr.cX z b ((ez z b).1 h)
 ·intro k e' b h hl z hz
  rcases hblk k e' b h hl with⟨q1,q2⟩ | ⟨q1,q2,q3,q4⟩
  ·exact hR.hr.dC q _ b hq q2 z ((ez z _).1 hz)
  ·exact hR.hr.dC k e' b q3 q4 z ((ez z _).1 hz)
 ·intro k hk
  rw[hlen] at hk
  have aG:k≠p:=by omega
  rw[ja k aG,gQ k aG]
  exact hR.hr.top k hk
 ·intro k v ls h
  rcases aI k _ h with⟨rfl,h1⟩ | ⟨q1,rfl,h1⟩ | ⟨q1,q2,q3⟩
  ·obtain⟨rfl,rfl⟩:=J.mk.inj h1;cases hb
  ·cases h1
  ·have:=hR.hr.az k v ls q3
   rw[qU];exact this
 ·intro k e' b h hl ah
  rcases hblk k e' b h hl with⟨q1,q2⟩ | ⟨q1,q2,q3,q4⟩
  ·exact hR.fr.rows q _ b hq q2 ah
  ·exact hR.fr.rows k e' b q3 q4 ah
 ·intro k e' b h hl
  rcases hblk k e' b h hl with⟨q1,q2⟩ | ⟨q1,q2,q3,q4⟩
  ·exact hR.rows q _ b hq q2
  ·exact hR.rows k e' b q3 q4
theorem pE{σ:Type}{Inv:σ→Prop}{μ:σ→Nat}{p:Nat}{as:List Nat}{ts:σ→List (Nat×AV)}{hs:σ→List (Nat×J)}{t:List AV}{H:List J}{x:{y:σ×(Nat→Nat)//Inv y.1}}{Q:Ex→St→Prop}{s s':St}(h:iD s s')(k:su μ p as ts hs t H x Q .normal s'):su μ p as ts hs t H x Q .normal s:=by
 obtain⟨y,h1,h2⟩:=k
 exact⟨y,xN h h1,h2⟩
theorem OR{E E':Env}{w:World}{k:Nat}{l l':List AV}(hl:l'.length=l.length)(h:∀cs,aq E w l cs→aq E' w l' cs)(he:fm E w k (.obj l)):fm E' w k (.obj l'):=by
 refine⟨fun _=> ?_,by rintro _ _ _ ⟨⟩⟩
 obtain⟨cur,T,lo,hi,h1,h2,h3,h4⟩:=he.aQ rfl
 refine⟨cur,T,lo,hi,h1,h2,by simp only[Bd.count,Bd.sz,hl] at h3⊢;exact h3,fun i ys hy=> ?_⟩
 simp only[Bd.at] at hy
 split at hy
 ·rename_i fe
  cases hy
  obtain⟨cs,k1,k2,k3⟩:=h4 i l (by simp[Bd.at,fe])
  simp only[Bd.sz,hl] at k1 k3⊢
  exact⟨cs,k1,h cs k2,k3⟩
 ·cases hy
theorem yr {s : St} {t' : List AV} (q p v' b : Nat) {e : J} {vq vb sz i0 j0 : Nat} {bd : Bd} (hq : bb s.H q = some ⟨vq, bd⟩) (hp : bb s.H p = some e) (jj : bb s.H b = some ⟨vb, .obj [.ref q vq sz i0 j0]⟩) (aG : Nat.beq p q = false) (mQ : Nat.beq b p = false) (vh : Nat.beq b q = false) (hv : e.ver < v') (hb : bd.gY = false) (ht : sT q vq p v' s.t t') :
    iD s ⟨t',aJ (aJ (aJ s.H q ⟨vq,.dead⟩) p ⟨v',bd⟩) b ⟨vb,.obj [.ref p v' sz i0 j0]⟩⟩:=by
 intro w0 keep E a w hR
 have OP:p≠q:=fun h=>by rw[h,Nat.beq_refl] at aG;cases aG
 have HB:b≠p:=fun h=>by rw[h,Nat.beq_refl] at mQ;cases mQ
 have OS:b≠q:=fun h=>by rw[h,Nat.beq_refl] at vh;cases vh
 rw[cj] at hq hp jj
 obtain⟨h1,h2⟩:=CK ht
 have c8:=(List.getElem?_eq_some_iff.1 hp).1
 have CL:=(List.getElem?_eq_some_iff.1 hq).1
 have mu:=(List.getElem?_eq_some_iff.1 jj).1
 have OQ:=hR.hr.ver p e hp
 have pC:E.ver q=vq:=hR.hr.ver q _ hq
 obtain⟨E',aN⟩:∃E':Env,E'={E with ρ:=fun k=>if k=p then E.ρ q else E.ρ k,ver:=fun k=>if k=p then v' else E.ver k,abs:=fun k=>if k=p then E.abs q else E.abs k}:=⟨_,rfl⟩
 have ev:E'.ver p=v':=by subst aN;simp
 have ja:∀k,k≠p→E'.ver k=E.ver k:=by intro k hk;subst aN;simp[hk]
 have ea:E'.abs p↔E.abs q:=by subst aN;simp
 have gQ:∀k,k≠p→(E'.abs k↔E.abs k):=by intro k hk;subst aN;simp[hk]
 have er:E'.ρ p=E.ρ q:=by subst aN;simp
 have pD:∀k,k≠p→E'.ρ k=E.ρ k:=by intro k hk;subst aN;simp[hk]
 have ez:∀z b,E'.aC z b↔E.aC z b:=by intro z b;subst aN;exact Iff.rfl
 have qU:E'.pl=E.pl:=by subst aN;rfl
 have X:Ext E E' w w:=by
  refine⟨fun k=> ?_,fun k hk=> ?_,fun k hk=> ?_,fun z b h=>(ez z b).2 h,fun _ _ _=>rfl,fun k cur T fz h=>⟨cur,T,fz,h,Nat.le_refl _⟩,fun _ _ _ _ h=>by rw[qU];exact h⟩
  ·by_cases h:k=p
   ·subst h;omega
   ·rw[ja k h];exact Nat.le_refl _
  ·by_cases h:k=p
   ·subst h;omega
   ·exact pD k h
  ·by_cases h:k=p
   ·subst h;omega
   ·exact gQ k h
 have one:∀v,ae E w (.ref q vq sz i0 j0) v→ae E' w (.ref p v' sz i0 j0) v:=by
  intro v h0
  rw[ae] at h0⊢
  refine⟨by omega,fun _=> ?_⟩
  rw[er]
  exact h0.2 pC.symm
 obtain⟨H',dN⟩:∃H',H'=aJ (aJ (aJ s.H q ⟨vq,.dead⟩) p ⟨v',bd⟩) b ⟨vb,.obj [.ref p v' sz i0 j0]⟩:=⟨_,rfl⟩
 have hlen:H'.length=s.H.length:=by rw[dN,bK,List.length_set,bK,List.length_set,bK,List.length_set]
 have aI:∀(k:Nat)(e':J),H'[k]? =some e'→(k=p∧e'=⟨v',bd⟩)∨(k≠p∧k=q∧e'=⟨vq,.dead⟩)∨(k≠p∧k≠q∧∃e0:J,s.H[k]? =some e0∧e'.ver=e0.ver∧e'.bd.live=e0.bd.live∧e'.bd.gY=e0.bd.gY∧e'.bd.count=e0.bd.count∧(∀ls,e'.bd= .az ls→e0.bd= .az ls)∧(fm E w (E.ρ k) e0.bd→fm E' w (E'.ρ k) e'.bd)):=by
  intro k e' h
  rw[dN,bK,List.getElem?_set] at h
  by_cases h0:b=k
  ·subst h0
   rw[if_pos rfl,if_pos (by rw[bK,List.length_set,bK,List.length_set];exact mu)] at h
   obtain rfl:=Option.some.inj h
   refine .inr (.inr ⟨HB,OS,_,jj,rfl,rfl,rfl,rfl,(by rintro _ ⟨⟩),fun he=> ?_⟩)
   rw[pD _ HB]
   refine OR (l:=[.ref q vq sz i0 j0]) (l':=[.ref p v' sz i0 j0]) rfl (fun cs cA=> ?_) he
   simp only[aq] at cA⊢
   obtain⟨v,vs,e1,e2,e3⟩:=cA
   exact⟨v,vs,e1,one v e2,e3⟩
  ·rw[if_neg h0,bK,List.getElem?_set] at h
   by_cases h1:p=k
   ·subst h1
    rw[if_pos rfl,if_pos (by rw[bK,List.length_set];exact c8)] at h
    exact .inl ⟨rfl,(Option.some.inj h).symm⟩
   ·rw[if_neg h1,bK,List.getElem?_set] at h
    by_cases h2:q=k
    ·subst h2
     rw[if_pos rfl,if_pos CL] at h
     exact .inr (.inl ⟨Ne.symm h1,rfl,(Option.some.inj h).symm⟩)
    ·rw[if_neg h2] at h
     refine .inr (.inr ⟨Ne.symm h1,Ne.symm h2,e',h,rfl,rfl,rfl,rfl,fun _ h=>h,fun he=> ?_⟩)
     rw[pD _ (Ne.symm h1)]
     exact he.ext X rfl
 have b9:∀(k:Nat)(e' e0:J),k≠p→e'.bd.live=e0.bd.live→bN E' k e'→bN E k e0:=fun k e' e0 q1 hl h=>⟨hl▸h.1,fun ha=>h.2 ((gQ k q1).2 ha)⟩
 have hblk:∀(k:Nat)(e':J)(c:Nat),H'[k]? =some e'→aB E' k e' c→(k=p∧aB E q ⟨vq,bd⟩ c)∨(k≠p∧k≠q∧∃e0:J,s.H[k]? =some e0∧aB E k e0 c):=by
  intro k e' c h jj
  rcases aI k e' h with⟨rfl,rfl⟩ | ⟨q1,rfl,rfl⟩ | ⟨q1,q2,e0,q3,q4,q5,q6,q7,q8,q9⟩
  ·rcases jj with⟨hl,h3⟩ | ⟨h3,h4⟩
   ·exact .inl ⟨rfl,.inl ⟨⟨hl.1,fun h=>hl.2 (ea.2 h)⟩,by rwa [er] at h3⟩⟩
   ·rw[show(⟨v',bd⟩:J).bd.gY=bd.gY from rfl,hb] at h3;cases h3
  ·exact absurd jj aB.dead
  ·refine .inr ⟨q1,q2,e0,q3,?_⟩
   rcases jj with⟨hl,h3⟩ | ⟨h3,i,h4⟩
   ·exact .inl ⟨b9 k e' e0 q1 q5 hl,by rwa [pD k q1] at h3⟩
   ·exact .inr ⟨q6▸h3,i,by rw[qU] at h4;exact h4⟩
 rw[←dN]
 refine⟨E',⟨by rw[←h1];exact hR.len,fun i y hy=> ?_,⟨hR.defers.1,hR.defers.2.ext X⟩,⟨?_,?_,?_,?_,?_,?_,?_,hR.hr.gl.ext X,?_⟩,⟨hR.fr.os,hR.fr.tape,hR.fr.output,hR.fr.size,hR.fr.block,hR.fr.grow,?_⟩,hR.ext.trans X,fun z b h=>hR.aC z b ((ez z b).1 h),?_⟩⟩
 ·rcases h2 i y hy with rfl | ⟨x,hx,rfl | ⟨sz,i0,j0,rfl,rfl⟩ | ⟨sz,o,n,rfl,rfl⟩⟩
  ·simp only[ae]
  ·exact fD X _ _ (hR.tmps i _ hx)
  ·have h0:=hR.tmps i _ hx
   rw[ae] at h0⊢
   refine⟨by omega,fun _=> ?_⟩
   rw[er]
   exact h0.2 pC.symm
  ·have h0:=hR.tmps i _ hx
   rw[ae] at h0⊢
   refine⟨by omega,fun _=> ?_⟩
   rw[er,ea]
   exact h0.2 pC.symm
 ·intro k e' h
  rcases aI k e' h with⟨rfl,rfl⟩ | ⟨q1,rfl,rfl⟩ | ⟨q1,q2,e0,q3,q4,_⟩
  ·exact ev
  ·rw[ja k q1];exact pC
  ·rw[ja k q1,q4];exact hR.hr.ver k e0 q3
 ·intro k e' h hl
  rcases aI k e' h with⟨rfl,rfl⟩ | ⟨q1,rfl,rfl⟩ | ⟨q1,q2,e0,q3,q4,q5,q6,q7,q8,q9⟩
  ·rw[er];exact(hR.hr.bS q _ hq ⟨hl.1,fun h=>hl.2 (ea.2 h)⟩).ext X rfl
  ·cases hl.1
  ·exact q9 (hR.hr.bS k e0 q3 (b9 k e' e0 q1 q5 hl))
 ·intro k e' h ha
  rcases aI k e' h with⟨rfl,rfl⟩ | ⟨q1,rfl,rfl⟩ | ⟨q1,q2,e0,q3,q4,q5,q6,q7,q8,q9⟩
  ·exact hR.hr.abs q ⟨vq,bd⟩ hq (ea.1 ha)
  ·rfl
  ·rw[q7];exact hR.hr.abs k e0 q3 ((gQ k q1).1 ha)
 ·intro k k' e1 e2 c h h' hl bA
  rcases hblk k e1 c h hl with⟨q1,q2⟩ | ⟨q1,q2,f1,q3,q4⟩<;>rcases hblk k' e2 c h' bA with⟨r1,r2⟩ | ⟨r1,r2,f2,r3,r4⟩
  ·rw[q1,r1]
  ·exact absurd (hR.hr.inj q k' _ f2 c hq r3 q2 r4) (Ne.symm r2)
  ·exact absurd (hR.hr.inj k q f1 _ c q3 hq q4 r2) q2
  ·exact hR.hr.inj k k' f1 f2 c q3 r3 q4 r4
 ·exact fun z b h=>hR.hr.cX z b ((ez z b).1 h)
 ·intro k e' c h hl z hz
  rcases hblk k e' c h hl with⟨q1,q2⟩ | ⟨q1,q2,f1,q3,q4⟩
  ·exact hR.hr.dC q _ c hq q2 z ((ez z _).1 hz)
  ·exact hR.hr.dC k f1 c q3 q4 z ((ez z _).1 hz)
 ·intro k hk
  rw[hlen] at hk
  have aG:k≠p:=by omega
  rw[ja k aG,gQ k aG]
  exact hR.hr.top k hk
 ·intro k v ls h
  rcases aI k _ h with⟨rfl,h1⟩ | ⟨q1,rfl,h1⟩ | ⟨q1,q2,e0,q3,q4,q5,q6,q7,q8,q9⟩
  ·obtain⟨rfl,rfl⟩:=J.mk.inj h1;cases hb
  ·cases h1
  ·have e1:=q8 ls rfl
   have:=hR.hr.az k e0.ver ls (by rw[q3,←e1])
   rw[qU];exact this
 ·intro k e' c h hl ah
  rcases hblk k e' c h hl with⟨q1,q2⟩ | ⟨q1,q2,f1,q3,q4⟩
  ·exact hR.fr.rows q _ c hq q2 ah
  ·exact hR.fr.rows k f1 c q3 q4 ah
 ·intro k e' c h hl
  rcases hblk k e' c h hl with⟨q1,q2⟩ | ⟨q1,q2,f1,q3,q4⟩
  ·exact hR.rows q _ c hq q2
  ·exact hR.rows k f1 c q3 q4
end Go.Proofs.YtpbpiehcchannaaGreatDoor
