/- Abstract values: rows of bytes that go into a pool. Conditions: the premises of each law. -/
import Derived.Test.YtpbpiehcchannaaGreatDoorJAe
namespace Go.Proofs.YtpbpiehcchannaaGreatDoor
set_option linter.unusedVariables false
set_option linter.unusedSimpArgs false
open Go.RowKit
mutual
def my(q u r v k:Nat):AV→AV
 | .own q' u' sz off n=>bif Nat.beq q' q&&(Nat.beq u' u&&Nat.beq sz 1) then .pl r v k off n else .own q' u' sz off n
 | .agg l=> .agg (pc q u r v k l)
 | .aD l=> .aD (pc q u r v k l)
 | .clo f caps=> .clo f (pc q u r v k caps)
 | .gd φ x=> .gd φ (my q u r v k x)
 | x=>x
def pc(q u r v k:Nat):List AV→List AV
 | []=>[]
 | x::xs=>my q u r v k x::pc q u r v k xs
end
section
variable {P:Program}
theorem Out.Nd{E:Env}{w:World}{H:List J}(hr:HR E w H){r v:Nat}(h0:H[r]? =some ⟨v,.dead⟩):∃E',Out E E' w w H [(r,⟨v+1,.az []⟩)]:=by
 have gu:E.ver r=v:=hr.ver r _ h0
 have nL:r<H.length:=(List.getElem?_eq_some_iff.1 h0).1
 obtain⟨E',aN⟩:∃E':Env,E'={E with ver:=fun k=>if k=r then v+1 else E.ver k,abs:=fun k=>if k=r then False else E.abs k,pl:=fun k=>if k=r then(fun _=>none) else E.pl k}:=⟨_,rfl⟩
 have ev:E'.ver r=v+1:=by subst aN;simp
 have ja:∀k,k≠r→E'.ver k=E.ver k:=by intro k hk;subst aN;simp[hk]
 have ea:¬E'.abs r:=by subst aN;simp
 have gQ:∀k,k≠r→(E'.abs k↔E.abs k):=by intro k hk;subst aN;simp[hk]
 have ep:∀i,E'.pl r i=none:=by subst aN;simp
 have qI:∀k,k≠r→E'.pl k=E.pl k:=by intro k hk;subst aN;simp[hk]
 have er:∀k,E'.ρ k=E.ρ k:=by intro k;subst aN;rfl
 have ez:∀z b,E'.aC z b↔E.aC z b:=by intro z b;subst aN;exact Iff.rfl
 have X:Ext E E' w w:=by
  refine⟨fun k=> ?_,fun k _=>er k,fun k hk=> ?_,fun z b h=>(ez z b).2 h,fun _ _ _=>rfl,fun k cur T fz h=>⟨cur,T,fz,h,Nat.le_refl _⟩,fun k hk i b hb=> ?_⟩
  ·by_cases q:k=r
   ·subst q;omega
   ·rw[ja k q];exact Nat.le_refl _
  ·by_cases q:k=r
   ·subst q;omega
   ·exact gQ k q
  ·by_cases q:k=r
   ·subst q;omega
   ·rw[qI k q];exact hb
 have aI:∀(k:Nat)(e:J),(aM H [(r,⟨v+1,.az []⟩)])[k]? =some e→k=r∧e=⟨v+1,.az []⟩∨k≠r∧H[k]? =some e:=by
  intro k e h
  simp only[aM,bK] at h
  by_cases jQ:k=r
  ·subst jQ;rw[List.getElem?_set_self nL] at h;exact .inl ⟨rfl,(Option.some.inj h).symm⟩
  ·rw[List.getElem?_set_ne (Ne.symm jQ)] at h;exact .inr ⟨jQ,h⟩
 have hblk:∀(k:Nat)(e:J)(b:Nat),(aM H [(r,⟨v+1,.az []⟩)])[k]? =some e→aB E' k e b→k≠r∧H[k]? =some e∧aB E k e b:=by
  intro k e b h hb
  rcases aI k e h with⟨rfl,rfl⟩ | ⟨q1,q2⟩
  ·rcases hb with⟨hb,_⟩ | ⟨_,i,hb⟩
   ·cases hb.1
   ·rw[ep] at hb;cases hb
  ·refine⟨q1,q2,?_⟩
   unfold aB bN at hb⊢
   rwa [er,gQ k q1,qI k q1] at hb
 refine⟨E',X,⟨?_,?_,?_,?_,fun z b h=>hr.cX z b ((ez z b).1 h),?_,?_,hr.gl.ext X,?_⟩,rfl,rfl,rfl,Nat.le_refl _,fun z b h=> .inl ((ez z b).1 h),fun _ cur T fz h=>⟨cur,T,fz,h,Nat.le_refl _⟩,fun _ _ _=>rfl,?_⟩
 ·intro k e h
  rcases aI k e h with⟨rfl,rfl⟩ | ⟨q1,q2⟩
  ·exact ev
  ·rw[ja k q1];exact hr.ver k e q2
 ·intro k e h hl
  rcases aI k e h with⟨rfl,rfl⟩ | ⟨q1,q2⟩
  ·cases hl.1
  ·rw[er];exact(hr.bS k e q2 ⟨hl.1,fun q=>hl.2 ((gQ k q1).2 q)⟩).ext X rfl
 ·intro k e h ha
  rcases aI k e h with⟨rfl,rfl⟩ | ⟨q1,q2⟩
  ·exact absurd ha ea
  ·exact hr.abs k e q2 ((gQ k q1).1 ha)
 ·intro k k' e e' b h h' hl bA
  obtain⟨_,q2,q3⟩:=hblk k e b h hl
  obtain⟨_,q5,q6⟩:=hblk k' e' b h' bA
  exact hr.inj k k' e e' b q2 q5 q3 q6
 ·intro k e b h hl z hz
  obtain⟨_,q2,q3⟩:=hblk k e b h hl
  exact hr.dC k e b q2 q3 z ((ez z _).1 hz)
 ·intro k hk
  simp only[aM,bK,List.length_set] at hk
  have aG:k≠r:=by omega
  rw[ja k aG,gQ k aG]
  exact hr.top k hk
 ·intro k u ls h
  rcases aI k _ h with⟨rfl,h1⟩ | ⟨q1,q2⟩
  ·cases h1
   exact⟨fun i l h=>by simp at h,fun i l b h=>by simp at h,fun i j b h=>(by rw[ep] at h;cases h),fun i b h=>(by rw[ep] at h;cases h)⟩
  ·rw[qI k q1];exact hr.az k u ls q2
 ·intro k e b h hl
  obtain⟨_,q2,q3⟩:=hblk k e b h hl
  exact .inr ⟨k,e,q2,q3,.inl rfl⟩
theorem Out.move {E : Env} {w : World} {H : List J} (hr : HR E w H) {q u r v : Nat} {l : List UInt8} {ls : List (List UInt8)} (hq : H[q]? = some ⟨u, .bytes l⟩) (h0 : H[r]? = some ⟨v, .az ls⟩) :
    ∃E',Out E E' w w H [(q,⟨u,.dead⟩),(r,⟨v,.az (ls++[l])⟩)]∧(∀x c,ae E w x c→ae E' w (my q u r v ls.length x) c):=by
 have BQ:q≠r:=by rintro rfl;rw[hq] at h0;cases h0
 have hP:=hr.az r v ls h0
 have GB:E.ver q=u:=hr.ver q _ hq
 have w9:E.ver r=v:=hr.ver r _ h0
 have Nf:q<H.length:=(List.getElem?_eq_some_iff.1 hq).1
 have nL:r<H.length:=(List.getElem?_eq_some_iff.1 h0).1
 obtain⟨nb,vg⟩:∃nb:Option Nat,(E.abs q∧nb=none)∨(¬E.abs q∧nb=some (E.ρ q)):=by
  by_cases h:E.abs q
  ·exact⟨_,.inl ⟨h,rfl⟩⟩
  ·exact⟨_,.inr ⟨h,rfl⟩⟩
 have BU:¬E.abs q→bN E q ⟨u,.bytes l⟩:=fun h=>⟨rfl,h⟩
 obtain⟨E',aN⟩:∃E':Env,E'={E with pl:=fun k=>if k=r then(fun i=>if i=ls.length then nb else E.pl r i) else E.pl k}:=⟨_,rfl⟩
 have ep:∀i,E'.pl r i=if i=ls.length then nb else E.pl r i:=by subst aN;simp
 have qI:∀k,k≠r→E'.pl k=E.pl k:=by intro k hk;subst aN;simp[hk]
 have er:∀k,E'.ρ k=E.ρ k:=by intro k;subst aN;rfl
 have ev:∀k,E'.ver k=E.ver k:=by intro k;subst aN;rfl
 have ea:∀k,E'.abs k↔E.abs k:=by intro k;subst aN;exact Iff.rfl
 have ez:∀z b,E'.aC z b↔E.aC z b:=by intro z b;subst aN;exact Iff.rfl
 have X:Ext E E' w w:=by
  refine⟨fun k=>by rw[ev];exact Nat.le_refl _,fun k _=>er k,fun k _=>ea k,fun z b h=>(ez z b).2 h,fun _ _ _=>rfl,fun k cur T fz h=>⟨cur,T,fz,h,Nat.le_refl _⟩,fun k _ i b hb=> ?_⟩
  by_cases h:k=r
  ·subst h
   have:=hP.top i b hb
   rw[ep,if_neg (by omega)];exact hb
  ·rw[qI k h];exact hb
 obtain⟨H',dN⟩:∃H',H'=aM H [(q,⟨u,.dead⟩),(r,⟨v,.az (ls++[l])⟩)]:=⟨_,rfl⟩
 have aI:∀(k:Nat)(e:J),H'[k]? =some e→(k=r∧e=⟨v,.az (ls++[l])⟩)∨(k=q∧e=⟨u,.dead⟩)∨(k≠r∧k≠q∧H[k]? =some e):=by
  intro k e h
  rw[dN] at h
  simp only[aM,bK] at h
  by_cases h1:k=r
  ·subst h1
   rw[List.getElem?_set_self (by simpa using nL)] at h
   exact .inl ⟨rfl,(Option.some.inj h).symm⟩
  ·rw[List.getElem?_set_ne (Ne.symm h1)] at h
   by_cases h2:k=q
   ·subst h2
    rw[List.getElem?_set_self Nf] at h
    exact .inr (.inl ⟨rfl,(Option.some.inj h).symm⟩)
   ·rw[List.getElem?_set_ne (Ne.symm h2)] at h
    exact .inr (.inr ⟨h1,h2,h⟩)
 have hblk:∀(k:Nat)(e:J)(b:Nat),H'[k]? =some e→aB E' k e b→∃(k0:Nat)(e0:J),H[k0]? =some e0∧aB E k0 e0 b∧(k0=k∧k≠q∨k0=q∧k=r):=by
  intro k e b h hb
  rcases aI k e h with⟨rfl,rfl⟩ | ⟨rfl,rfl⟩ | ⟨h1,h2,h3⟩
  ·rcases hb with⟨hb,_⟩ | ⟨_,i,hb⟩
   ·cases hb.1
   ·rw[ep] at hb
    split at hb
    ·rcases vg with⟨_,rfl⟩ | ⟨br,rfl⟩
     ·cases hb
     ·cases hb
      exact⟨q,_,hq,aB.of (BU br),.inr ⟨rfl,rfl⟩⟩
    ·exact⟨k,_,h0,.inr ⟨rfl,i,hb⟩,.inl ⟨rfl,Ne.symm BQ⟩⟩
  ·exact absurd hb aB.dead
  ·refine⟨k,e,h3,?_,.inl ⟨rfl,h2⟩⟩
   unfold aB bN at hb⊢
   rwa [er,ea,qI k h1] at hb
 have vh:∀b,E'.pl r ls.length=some b→b=E.ρ q∧¬E.abs q:=by
  intro b hb
  rw[ep,if_pos rfl] at hb
  rcases vg with⟨_,rfl⟩ | ⟨br,rfl⟩
  ·cases hb
  ·cases hb;exact⟨rfl,br⟩
 have O:Out E E' w w H [(q,⟨u,.dead⟩),(r,⟨v,.az (ls++[l])⟩)]:=by
  refine⟨X,?_,rfl,rfl,rfl,Nat.le_refl _,fun z b h=> .inl ((ez z b).1 h),fun _ cur T fz h=>⟨cur,T,fz,h,Nat.le_refl _⟩,fun _ _ _=>rfl,?_⟩
  ·rw[←dN]
   refine⟨?_,?_,?_,?_,fun z b h=>hr.cX z b ((ez z b).1 h),?_,?_,hr.gl.ext X,?_⟩
   ·intro k e h
    rw[ev]
    rcases aI k e h with⟨rfl,rfl⟩ | ⟨rfl,rfl⟩ | ⟨_,_,h3⟩
    ·exact w9
    ·exact GB
    ·exact hr.ver k e h3
   ·intro k e h hl
    rcases aI k e h with⟨rfl,rfl⟩ | ⟨rfl,rfl⟩ | ⟨_,_,h3⟩
    ·cases hl.1
    ·cases hl.1
    ·rw[er];exact(hr.bS k e h3 ⟨hl.1,fun a=>hl.2 ((ea k).2 a)⟩).ext X rfl
   ·intro k e h ha
    rw[ea] at ha
    rcases aI k e h with⟨rfl,rfl⟩ | ⟨rfl,rfl⟩ | ⟨_,_,h3⟩
    ·have:=hr.abs k _ h0 ha;cases this
    ·rfl
    ·exact hr.abs k e h3 ha
   ·intro k k' e e' b h h' hl bA
    obtain⟨k0,e0,h1,h2,h3⟩:=hblk k e b h hl
    obtain⟨k1,e1,g1,g2,g3⟩:=hblk k' e' b h' bA
    have:=hr.inj k0 k1 e0 e1 b h1 g1 h2 g2
    rcases h3 with⟨rfl,h3⟩ | ⟨rfl,rfl⟩<;>rcases g3 with⟨rfl,g3⟩ | ⟨rfl,rfl⟩
    ·exact this
    ·exact absurd this h3
    ·exact absurd this.symm g3
    ·rfl
   ·intro k e b h hl z hz
    obtain⟨k0,e0,h1,h2,_⟩:=hblk k e b h hl
    exact hr.dC k0 e0 b h1 h2 z ((ez z _).1 hz)
   ·intro k hk
    rw[dN,Fg] at hk
    rw[ev,ea]
    exact hr.top k hk
   ·intro k u' ms h
    rcases aI k _ h with⟨rfl,h1⟩ | ⟨_,h1⟩ | ⟨h1,h2,h3⟩
    ·cases h1
     refine⟨fun i m hm aG=> ?_,fun i m b hm hb=> ?_,fun i j b hi hj=> ?_,fun i b hi=> ?_⟩
     ·rw[List.getElem?_append] at hm
      split at hm
      ·rename_i hi
       obtain⟨b,hb⟩:=hP.has i m hm aG
       exact⟨b,by rw[ep,if_neg (by omega)];exact hb⟩
      ·rename_i hi
       have dU:i - ls.length=0:=by have:=(List.getElem?_eq_some_iff.1 hm).1;simp at this;omega
       rw[dU] at hm
       cases hm
       have qJ:i=ls.length:=by omega
       rw[ep,if_pos qJ]
       rcases vg with⟨ha,rfl⟩ | ⟨br,rfl⟩
       ·have:=hr.abs q _ hq ha
        exact absurd (List.eq_nil_of_length_eq_zero this) aG
       ·exact⟨_,rfl⟩
     ·rw[List.getElem?_append] at hm
      split at hm
      ·rename_i hi
       rw[ep,if_neg (by omega)] at hb
       exact hP.aQ i m b hm hb
      ·rename_i hi
       have dU:i - ls.length=0:=by have:=(List.getElem?_eq_some_iff.1 hm).1;simp at this;omega
       rw[dU] at hm
       cases hm
       have qJ:i=ls.length:=by omega
       subst qJ
       obtain⟨rfl,br⟩:=vh b hb
       obtain⟨cur,T,lo,bP,g1,g2,g3,g4⟩:=(hr.bS q _ hq (BU br)).aQ rfl
       refine⟨cur,T,lo,bP,g1,g2,by simpa [Bd.count,Bd.sz] using g3,fun j x hx=> ?_⟩
       obtain⟨cs,_,k2,k3⟩:=g4 j [.val (bv x)] (by simp[Bd.at,hx])
       simp only[aq,ae] at k2
       obtain⟨y,vs,rfl,rfl,rfl⟩:=k2
       have:=k3 0 _ rfl
       simpa [Bd.sz] using this
     ·have key:∀i,E'.pl k i=some b→(i=ls.length∧aB E q ⟨u,.bytes l⟩ b)∨(i≠ls.length∧E.pl k i=some b):=by
        intro i hi
        by_cases qJ:i=ls.length
        ·subst qJ
         obtain⟨rfl,br⟩:=vh b hi
         exact .inl ⟨rfl,aB.of (BU br)⟩
        ·rw[ep,if_neg qJ] at hi
         exact .inr ⟨qJ,hi⟩
      rcases key i hi with⟨h1,h2⟩ | ⟨h1,h2⟩<;>rcases key j hj with⟨g1,g2⟩ | ⟨g1,g2⟩
      ·omega
      ·exact absurd (hr.inj q k _ _ b hq h0 h2 (.inr ⟨rfl,j,g2⟩)) BQ
      ·exact absurd (hr.inj q k _ _ b hq h0 g2 (.inr ⟨rfl,i,h2⟩)) BQ
      ·exact hP.inj i j b h2 g2
     ·rw[List.length_append,List.length_singleton]
      rw[ep] at hi
      split at hi
      ·omega
      ·have:=hP.top i b hi;omega
    ·cases h1
    ·rw[qI k h1];exact hr.az k u' ms h3
  ·intro k e b h hl
   rw[←dN] at h
   obtain⟨k0,e0,h1,h2,h3⟩:=hblk k e b h hl
   refine .inr ⟨k0,e0,h1,h2,?_⟩
   rcases h3 with⟨rfl,_⟩ | ⟨rfl,_⟩
   ·exact .inl rfl
   ·exact .inr (by simp)
 refine⟨E',O,?_⟩
 have one:∀(off n:Nat)(c:Value),ae E w (.own q u 1 off n) c→ae E' w (.pl r v ls.length off n) c:=by
  intro off n c h
  simp only[Go.Proofs.YtpbpiehcchannaaGreatDoor.ae] at h⊢
  obtain⟨a,cc,rfl,h1,h2,h3,h4⟩:=h.2 GB.symm
  refine⟨by rw[ev,w9];exact Nat.le_refl _,fun _=>⟨a,cc,rfl,h1,h2,h3,?_⟩⟩
  rcases h4 with h4 | ⟨h4,h5,cur,T,fz,h6,h7⟩
  ·left;omega
  ·refine .inr ⟨E.ρ q,?_,by rw[h5,Nat.mul_one],cur,T,fz,h6,by rw[Nat.mul_one] at h7;omega⟩
   rw[ep,if_pos rfl]
   rcases vg with⟨ha,_⟩ | ⟨_,rfl⟩
   ·exact absurd ha h4
   ·rfl
 exact BV one X
where
 BV {E E':Env} {w:World} {q u r v k:Nat} (one:∀(off n:Nat)(c:Value),ae E w (.own q u 1 off n) c→ae E' w (.pl r v k off n) c) (X:Ext E E' w w):∀(x:AV)(c:Value),ae E w x c→ae E' w (my q u r v k x) c
  | .own q' u' sz off n,c,h=>by
   rw[my]
   cases hb:(Nat.beq q' q&&(Nat.beq u' u&&Nat.beq sz 1))
   ·exact fD X _ _ h
   ·simp only[Bool.and_eq_true,Nat.beq_eq] at hb
    obtain⟨rfl,rfl,rfl⟩:=hb
    exact one off n c h
  | .agg l,c,h=>by
   rw[my,ae]
   rw[ae] at h
   obtain⟨cs,rfl,h⟩:=h
   exact⟨cs,rfl,x8 one X l cs h⟩
  | .aD l,c,h=>by
   rw[my,ae]
   rw[ae] at h
   obtain⟨cs,rfl,h⟩:=h
   exact⟨cs,rfl,x8 one X l cs h⟩
  | .clo f l,c,h=>by
   rw[my,ae]
   rw[ae] at h
   obtain⟨cs,rfl,h⟩:=h
   exact⟨cs,rfl,x8 one X l cs h⟩
  | .gd φ x,c,h=>by
   rw[my]
   simp only[Go.Proofs.YtpbpiehcchannaaGreatDoor.ae] at h⊢
   exact⟨fun p=>BV one X x c (h.1 p),h.2⟩
  | .any,c,h=>fD X _ _ h
  | .val _,c,h=>fD X _ _ h
  | .bs ..,c,h=>fD X _ _ h
  | .sl ..,c,h=>fD X _ _ h
  | .ref ..,c,h=>fD X _ _ h
  | .cp ..,c,h=>fD X _ _ h
  | .gG ..,c,h=>fD X _ _ h
  | .pl ..,c,h=>fD X _ _ h
  | .iQ ..,c,h=>fD X _ _ h
 x8 {E E':Env} {w:World} {q u r v k:Nat} (one:∀(off n:Nat)(c:Value),ae E w (.own q u 1 off n) c→ae E' w (.pl r v k off n) c) (X:Ext E E' w w):∀(xs:List AV)(cs:List Value),aq E w xs cs→aq E' w (pc q u r v k xs) cs
  | [],cs,h=>by rw[pc];rw[Go.Proofs.YtpbpiehcchannaaGreatDoor.aq] at h⊢;exact h
  | x::xs,cs,h=>by
   rw[pc,Go.Proofs.YtpbpiehcchannaaGreatDoor.aq]
   rw[Go.Proofs.YtpbpiehcchannaaGreatDoor.aq] at h
   obtain⟨c,iV,rfl,h1,h2⟩:=h
   exact⟨c,iV,rfl,BV one X x c h1,x8 one X xs iV h2⟩
theorem uc.mono{f:FuncId}{as:Array Value}{w:World}{R R':Value→World→Prop}(h:uc P f as w R)(hr:∀v w',R v w'→R' v w'):uc P f as w R':=by
 rcases h with⟨h1,h2⟩ | ⟨v,w',h1,h2⟩
 ·exact .inl ⟨h1,Calls.mono h2 fun e w'⟨v,he,hv⟩=>⟨v,he,hr v w' hv⟩⟩
 ·exact .inr ⟨v,w',h1,hr v w' h2⟩
def vi(hg:Nat→Option J)(us:List (Nat×J))(r:Nat):Option J:=match hg r with
 | none=>none
 | some e=>match fb us r with
  | none=>some e
  | some e'=>some e'
theorem BX{hg:Nat→Option J}{us:List (Nat×J)}{r:Nat}{e:J}(h:vi hg us r=some e){H:List J}(hh:∀(r:Nat)(e:J),hg r=some e→H[r]? =some e):(aM H us)[r]? =some e:=by
 unfold vi at h
 split at h
 ·cases h
 rename_i e0 he
 rw[xy,hh r e0 he]
 split at h<;>rename_i hl<;>rw[hl]<;>simpa using h
theorem GC {x : AV} {args : List AV} {hg : Nat → Option J} {K : AV → List (Nat × J) → Prop} (q r : Nat)
    (h:eZ P x args hg fun v us=>∃u l vv ls,vi hg us q=some ⟨u,.bytes l⟩∧vi hg us r=some ⟨vv,.az ls⟩∧K (my q u r vv ls.length v) (us++[(q,⟨u,.dead⟩),(r,⟨vv,.az (ls++[l])⟩)])):eZ P x args hg K:=by
 unfold eZ at h⊢
 obtain⟨f,caps,rfl,post,S,hK⟩:=h
 refine⟨f,caps,rfl,K,fun E H w cargs hr hh ha=> ?_,fun _ _ h=>h⟩
 refine(S E H w cargs hr hh ha).mono fun v w'⟨y,us,E',hp,hv,O⟩=> ?_
 obtain⟨u,l,vv,ls,h1,h2,h3⟩:=hK y us hp
 obtain⟨E2,O2,hm⟩:=Out.move O.hr (BX h1 hh) (BX h2 hh)
 exact⟨_,_,E2,h3,hm _ _ hv,O.trans O2⟩
theorem Ng {x : AV} {args : List AV} {hg : Nat → Option J} {K : AV → List (Nat × J) → Prop} (r : Nat)
    (h:eZ P x args hg fun v us=>∃vv,vi hg us r=some ⟨vv,.dead⟩∧K v (us++[(r,⟨vv+1,.az []⟩)])):eZ P x args hg K:=by
 unfold eZ at h⊢
 obtain⟨f,caps,rfl,post,S,hK⟩:=h
 refine⟨f,caps,rfl,K,fun E H w cargs hr hh ha=> ?_,fun _ _ h=>h⟩
 refine(S E H w cargs hr hh ha).mono fun v w'⟨y,us,E',hp,hv,O⟩=> ?_
 obtain⟨vv,h1,h2⟩:=hK y us hp
 obtain⟨E2,O2⟩:=Out.Nd O.hr (BX h1 hh)
 exact⟨_,_,E2,h2,fD O2.ext _ _ hv,O.trans O2⟩
theorem GD {E E0 : Env} {w : World} {H : List J} (hr : HR E w H) {r ver i off n : Nat} {ls : List (List UInt8)} {l : List UInt8} (he : H[r]? = some ⟨ver, .az ls⟩) (hl : ls[i]? = some l) (hle : off + n ≤ l.length) {v : Value} (h : ae E w (.pl r ver i off n) v)
    (hz:∀b,E.pl r i=some b→E0.aC 0 b):ae E0 w (.bs 0 ((l.drop off).take n)) v:=by
 obtain⟨a,c,rfl,h1,h2,h3,h4⟩:=hr.wL he hl hle rfl h
 rw[ae]
 refine⟨a,n,c,rfl,by rw[List.length_take,List.length_drop];omega,h1,h2,h3,fun j x hx=> ?_⟩
 obtain⟨b,h5,h6,h7⟩:=h4 j x hx
 exact⟨b,off,h6,hz b h5,h7⟩
theorem BY{rows:List J}{r ver i off n:Nat}{ls:List (List UInt8)}{l:List UInt8}(he:bb rows r=some ⟨ver,.az ls⟩)(hl:ls[i]? =some l)(hle:off+n≤l.length):As rows (.pl r ver i off n) (.bs 0 ((l.drop off).take n)):=fun E E0 w v hr hz h=>by
 rw[cj] at he
 exact GD hr he hl hle h fun b hb=>(hz 0 b).2 ⟨rfl,hr.blt he (.inr ⟨rfl,i,hb⟩)⟩
theorem GF{H0 R:List J}{q ver i off n:Nat}{ls:List (List UInt8)}{l:List UInt8}(he:bb R q=some ⟨ver,.az ls⟩)(hl:ls[i]? =some l)(hle:off+n≤l.length):AX H0 R (.pl (q+H0.length) ver i off n) (.bs 0 ((l.drop off).take n)):=fun E E0 w v hr hz _ h=>by
 rw[cj] at he
 have ig:(H0++R)[q+H0.length]? =some ⟨ver,.az ls⟩:=by
  rw[List.getElem?_append_right (by omega),show q+H0.length - H0.length=q by omega];exact he
 refine GD hr ig hl hle h fun b hb=>(hz 0 b).2 ⟨rfl,hr.blt ig (.inr ⟨rfl,i,hb⟩),fun r e nr hl=> ?_⟩
 have gP:=(List.getElem?_eq_some_iff.1 nr).1
 have:=hr.inj r (q+H0.length) e _ b (by rw[List.getElem?_append_left gP];exact nr) ig hl (.inr ⟨rfl,i,hb⟩)
 omega
theorem Nh{s:St}{b vb r v':Nat}{cells cells':List AV}{er:J}(hb:bb s.H b=some ⟨vb,.obj cells⟩)(hr:bb s.H r=some er)(hv:er.ver=v')(ht:jz r v' cells cells'):iD s ⟨s.t,aJ s.H b ⟨vb,.obj cells'⟩⟩:=by
 intro w0 keep E a w hR
 rw[cj] at hb hr
 have mu:=(List.getElem?_eq_some_iff.1 hb).1
 have gu:E.ver r=v':=(hR.hr.ver r er hr).trans hv
 obtain⟨h1,h2⟩:=Bm ht
 have hw:∀(k:Nat)(e:J),(aJ s.H b ⟨vb,.obj cells'⟩)[k]? =some e→(k=b∧e=⟨vb,.obj cells'⟩)∨(k≠b∧s.H[k]? =some e):=by
  intro k e h
  rw[bK,List.getElem?_set] at h
  by_cases q:b=k
  ·subst q
   rw[if_pos rfl,if_pos mu] at h
   exact .inl ⟨rfl,(Option.some.inj h).symm⟩
  ·rw[if_neg q] at h;exact .inr ⟨fun h=>q h.symm,h⟩
 have hblk:∀(k:Nat)(e:J)(c:Nat),(aJ s.H b ⟨vb,.obj cells'⟩)[k]? =some e→aB E k e c→∃e0,s.H[k]? =some e0∧aB E k e0 c:=by
  intro k e c h hc
  rcases hw k e h with⟨rfl,rfl⟩ | ⟨_,h⟩
  ·rcases hc with⟨⟨_,q1⟩,q2⟩ | ⟨q,_⟩
   ·exact⟨_,hb,.inl ⟨⟨rfl,q1⟩,q2⟩⟩
   ·cases q
  ·exact⟨e,h,hc⟩
 have key:∀{cs:List Value},aq E w cells cs→aq E w cells' cs:=fun{cs} hc=>by
  obtain⟨g1,g2⟩:=eX hc
  refine tu (by omega) (fun i y v hy sC=> ?_)
  rcases h2 i y hy with rfl | ⟨x,hx,rfl | ⟨sz,rfl,rfl⟩⟩
  ·simp only[ae]
  ·obtain⟨v2,q1,q2⟩:=g2 i x hx
   rw[sC] at q1;cases q1;exact q2
  ·obtain⟨v2,q1,q2⟩:=g2 i _ hx
   rw[sC] at q1;cases q1
   rw[bq q2,ae]
   exact⟨by omega,fun _=>⟨none,0,rfl,Nat.le_refl _,Nat.zero_le _,fun _=>rfl,.inl rfl⟩⟩
 refine⟨E,⟨hR.len,hR.tmps,hR.defers,⟨fun k e h=> ?_,fun k e h hl=> ?_,fun k e h ha=> ?_,fun k k' e e' c h h' hl bA=> ?_,hR.hr.cX,fun k e c h hl=> ?_,fun k hk=>hR.hr.top k (by rw[bK,List.length_set] at hk;exact hk),hR.hr.gl,fun k u ls h=> ?_⟩,⟨hR.fr.os,hR.fr.tape,hR.fr.output,hR.fr.size,hR.fr.block,hR.fr.grow,fun k e c h hl=> ?_⟩,hR.ext,hR.aC,fun k e c h hl=> ?_⟩⟩
 ·rcases hw k e h with⟨rfl,rfl⟩ | ⟨_,h⟩
  ·exact hR.hr.ver k ⟨vb,.obj cells⟩ hb
  ·exact hR.hr.ver k e h
 ·rcases hw k e h with⟨rfl,rfl⟩ | ⟨_,h⟩
  ·have fG:=hR.hr.bS k _ hb ⟨rfl,hl.2⟩
   refine⟨fun _=> ?_,fun _ _ _ q=>by cases q⟩
   obtain⟨cur,T,lo,hi,q1,q2,q3,q4⟩:=fG.aQ rfl
   refine⟨cur,T,lo,hi,q1,q2,by simp only[Bd.count,Bd.sz] at q3⊢;rw[←h1];exact q3,fun i ys hy=> ?_⟩
   simp only[Bd.at] at hy
   split at hy
   ·rename_i fe
    cases hy
    obtain⟨cs,k1,k2,k3⟩:=q4 i cells (by simp[Bd.at,fe])
    simp only[Bd.sz] at k1 k3⊢
    exact⟨cs,by rw[←h1];exact k1,key k2,fun j u hu=>by rw[←h1];exact k3 j u hu⟩
   ·cases hy
  ·exact hR.hr.bS k e h hl
 ·rcases hw k e h with⟨rfl,rfl⟩ | ⟨_,h⟩
  ·have:=hR.hr.abs k _ hb ha;cases this
  ·exact hR.hr.abs k e h ha
 ·obtain⟨e0,q1,q2⟩:=hblk k e c h hl
  obtain⟨e1,q3,q4⟩:=hblk k' e' c h' bA
  exact hR.hr.inj k k' e0 e1 c q1 q3 q2 q4
 ·obtain⟨e0,q1,q2⟩:=hblk k e c h hl
  exact hR.hr.dC k e0 c q1 q2
 ·rcases hw k _ h with⟨_,h⟩ | ⟨_,h⟩
  ·cases h
  ·exact hR.hr.az k u ls h
 ·obtain⟨e0,q1,q2⟩:=hblk k e c h hl
  exact hR.fr.rows k e0 c q1 q2
 ·obtain⟨e0,q1,q2⟩:=hblk k e c h hl
  exact hR.rows k e0 c q1 q2
theorem GG(r v':Nat):∀(l:List AV),jz r v' l l
 | []=>trivial
 | x::l=>⟨.inr (.inl rfl),GG r v' l⟩
theorem GH{s:St}{b vb r v' sz:Nat}{bd':Bd}{e:J}(hb:bb s.H b=some ⟨vb,.obj [.val (.slice none 0 0)]⟩)(hr:bb s.H r=some e)(GI:Nat.beq b r=false)(hv:e.ver<v')(hc:bd'.count=0):iD s ⟨s.t,aJ (aJ s.H r ⟨v',bd'⟩) b ⟨vb,.obj [.own r v' sz 0 0]⟩⟩:=by
 have aG:b≠r:=fun q=>by rw[q,Nat.beq_refl] at GI;cases GI
 have gP:r<s.H.length:=by rw[cj] at hr;exact(List.getElem?_eq_some_iff.1 hr).1
 refine xN (lH r v' bd' hr hv hc (GG r v' s.t)) (Nh (r:=r) (v':=v') (cells:=[.val (.slice none 0 0)]) (cells':=[.own r v' sz 0 0]) (er:=⟨v',bd'⟩) ?_ ?_ rfl ⟨.inr (.inr ⟨sz,rfl,rfl⟩),trivial⟩)
 ·show bb (aJ s.H r _) b=_
  rw[cj,bK,List.getElem?_set_ne (Ne.symm aG),←cj];exact hb
 ·show bb (aJ s.H r _) r=_
  rw[cj,bK,List.getElem?_set_self gP]
theorem qK{B:(Ex→St→Prop)→St→Prop}{Q:Ex→St→Prop}{s s':St}(h:iD s s')(k:oU B Q s'):oU B Q s:=by
 unfold oU at k⊢
 obtain⟨σ,I,μ,x0,h0,hI⟩:=k
 exact⟨σ,I,μ,x0,xN h h0,hI⟩
end
end Go.Proofs.YtpbpiehcchannaaGreatDoor
