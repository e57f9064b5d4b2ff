/- Abstract values, and what each operation makes of them. Conditions: none. -/
import Derived.Test.YtpbpiehcchannaaGreatDoorJLb
import Derived.Test.YtpbpiehcchannaaGreatDoorJGb
import Derived.Laws.Small
import Derived.Laws.Pointers
import Derived.Great.BuildSlice
/-! Abstract values for the walks: what a value of the model stands for, whatever the addresses; when that stays so in another world. Conditions: none. -/
namespace Go.Proofs.YtpbpiehcchannaaGreatDoor
set_option linter.unusedVariables false
set_option linter.unusedSimpArgs false
inductive AV:Type 1 where
 | any
 | val (v:Value)
 | agg (l:List AV)
 | al (l:List AV)
 | bs (z:Nat) (l:List UInt8)
 | sl (z sz:Nat) {α:Type} (f:α→List AV) (d:α) (l:List α)
 | own (r ver sz off n:Nat)
 | ref (r ver sz i j:Nat)
 | cp (z:Nat) (cells:List AV) (j:Nat)
 | clo (f:FuncId) (caps:List AV)
 | fI (r ver:Nat)
 | pl (r ver i off n:Nat)
 | gU (r ver i k:Nat)
 | gd (φ:Prop) (x:AV)

structure pM where
 l:Nat
 tv:Array Value
 ks:List Nat
 ps:Array Tmp
 fX:Code
 body:Code
inductive Bd:Type 1 where
 | dead
 | bytes (l:List UInt8)
 | row (sz:Nat) {α:Type} (f:α→List AV) (d:α) (l:List α)
 | obj (l:List AV)
 | lp (i:pM) (tR:List AV) (st:Option Code)
 | aB (ls:List (List UInt8))
structure U:Type 1 where
 ver:Nat
 bd:Bd

structure Env where
 ρ:Nat→Nat
 ver:Nat→Nat
 aD:Nat→Nat→Prop
 abs:Nat→Prop
 pl:Nat→Nat→Option Nat

mutual
def ah(E:Env)(w:World):AV→Value→Prop
 | .any,_=>True
 | .val u,v=>v=u
 | .agg l,v=>∃cs:List Value,v= .agg cs.toArray∧aw E w l cs
 | .al l,v=>∃cs:List Value,v= .tuple cs.toArray∧aw E w l cs
 | .bs z l, v => ∃ a n c, v = .slice a n c ∧ n = l.length ∧ n ≤ c ∧ c ≤ maxLen ∧ (a = none → c = 0) ∧
     ∀(i:Nat)(x:UInt8),l[i]? =some x→∃b o,a=some ⟨b,o,none⟩∧E.aD z b∧w.cell? ⟨b,o+i,none⟩=some (bv x)
 | .sl z sz (α := α) f _ l, v => ∃ a n c, v = .slice a n c ∧ n = l.length ∧ n ≤ c ∧ c ≤ maxLen ∧ (a = none → c = 0) ∧
     ∀(i:Nat)(x:α),l[i]? =some x→∃b o cs,a=some ⟨b,o,none⟩∧E.aD z b∧cs.length=sz∧aw E w (f x) cs∧∀j u,cs[j]? =some u→w.cell? ⟨b,o+i*sz+j,none⟩=some u
 | .own r ver sz off n,v=>ver≤E.ver r∧(ver=E.ver r→∃a c,v= .slice a n c∧n≤c∧c≤maxLen∧(a=none→c=0)∧(c=0∨¬E.abs r∧a=some ⟨E.ρ r,off*sz,none⟩∧∃cur T fz,w.heap[E.ρ r]? =some (.cells cur T fz)∧(off+c)*sz≤cur.size))
 | .ref r ver sz i j,v=>ver≤E.ver r∧(ver=E.ver r→v= .pointer (some ⟨E.ρ r,i*sz+j,none⟩))
 | .cp z cells j,v=>∃b o cs,v= .pointer (some ⟨b,o+j,none⟩)∧E.aD z b∧aw E w cells cs∧∀j u,cs[j]? =some u→w.cell? ⟨b,o+j,none⟩=some u
 | .clo f caps,v=>∃cs:List Value,v= .func (.func f) #[] cs.toArray∧aw E w caps cs
 | .fI r ver,v=>ver≤E.ver r∧(ver=E.ver r→v= .func (.yield (E.ρ r)) #[] #[])
 | .pl r ver i off n,v=>ver≤E.ver r∧(ver=E.ver r→∃a c,v= .slice a n c∧n≤c∧c≤maxLen∧(a=none→c=0)∧(n=0∨∃b,E.pl r i=some b∧a=some ⟨b,off,none⟩∧∃cur T fz,w.heap[b]? =some (.cells cur T fz)∧off+n≤cur.size))
 | .gU r ver i k,v=>ver≤E.ver r∧(ver=E.ver r→∃b,E.pl r i=some b∧v= .pointer (some ⟨b,k,none⟩))
 | .gd φ x,v=>(φ→ah E w x v)∧(¬φ→v=undef)
def aw(E:Env)(w:World):List AV→List Value→Prop
 | [],vs=>vs=[]
 | x::xs,vs=>∃v cQ,vs=v::cQ∧ah E w x v∧aw E w xs cQ
end

theorem eR{E:Env}{w:World}:∀{xs:List AV}{vs:List Value},aw E w xs vs→xs.length=vs.length∧∀(i:Nat)(x:AV),xs[i]? =some x→∃v,vs[i]? =some v∧ah E w x v
 | [],vs,h=>by rw[aw] at h;subst h;simp
 | x::xs,vs,h=>by
  rw[aw] at h
  obtain⟨v,cQ,rfl,h1,h2⟩:=h
  obtain⟨h3,h4⟩:=eR h2
  refine⟨by simp[h3],fun i y hy=> ?_⟩
  cases i with
  | zero=>simp at hy;subst hy;exact⟨v,rfl,h1⟩
  | succ i=>simpa using h4 i y (by simpa using hy)
theorem rC{E:Env}{w:World}:∀{xs:List AV}{vs:List Value},xs.length=vs.length→(∀(i:Nat)(x:AV)(v:Value),xs[i]? =some x→vs[i]? =some v→ah E w x v)→aw E w xs vs
 | [],vs,hl,_=>by rw[aw];exact List.eq_nil_of_length_eq_zero (by simpa using hl.symm)
 | x::xs,[],hl,_=>by simp at hl
 | x::xs,v::vs,hl,h=>by
  rw[aw]
  exact⟨v,vs,rfl,h 0 x v rfl rfl,rC (by simpa using hl) (fun i y u hy hu=>h (i+1) y u (by simpa using hy) (by simpa using hu))⟩

structure Ext(E E':Env)(w w':World):Prop where
 ver:∀r,E.ver r≤E'.ver r
 di:∀r,E'.ver r=E.ver r→E'.ρ r=E.ρ r
 abs:∀r,E'.ver r=E.ver r→(E'.abs r↔E.abs r)
 aD:∀z b,E.aD z b→E'.aD z b
 cell:∀z b,E.aD z b→w'.heap[b]? =w.heap[b]?
 grow:∀(k:Nat) cur T fz,w.heap[k]? =some (.cells cur T fz)→∃cR T' dX,w'.heap[k]? =some (.cells cR T' dX)∧cur.size≤cR.size
 pl:∀r,E'.ver r=E.ver r→∀i b,E.pl r i=some b→E'.pl r i=some b
theorem Ext.refl(E:Env)(w:World):Ext E E w w:=⟨fun _=>Nat.le_refl _,fun _ _=>rfl,fun _ _=>Iff.rfl,fun _ _ h=>h,fun _ _ _=>rfl,fun _ cur T fz h=>⟨cur,T,fz,h,Nat.le_refl _⟩,fun _ _ _ _ h=>h⟩
theorem Ext.trans{E E' tK:Env}{w w' tL:World}(h:Ext E E' w w')(k:Ext E' tK w' tL):Ext E tK w tL:=by
 have hv:∀r,tK.ver r=E.ver r→E'.ver r=E.ver r∧tK.ver r=E'.ver r:=fun r e=>by have:=h.ver r;have:=k.ver r;omega
 refine⟨fun r=>Nat.le_trans (h.ver r) (k.ver r),fun r e=>(k.di r (hv r e).2).trans (h.di r (hv r e).1),fun r e=>(k.abs r (hv r e).2).trans (h.abs r (hv r e).1),fun z b hz=>k.aD z b (h.aD z b hz),fun z b hz=>(k.cell z b (h.aD z b hz)).trans (h.cell z b hz),fun m cur T fz hc=> ?_,fun r e i b q=>k.pl r (hv r e).2 i b (h.pl r (hv r e).1 i b q)⟩
 obtain⟨cR,T',dX,h1,h2⟩:=h.grow m cur T fz hc
 obtain⟨Gu,Gv,Gw,h3,h4⟩:=k.grow m cR T' dX h1
 exact⟨Gu,Gv,Gw,h3,Nat.le_trans h2 h4⟩

theorem World.cell_of_heap{w w':World}{b o:Nat}(h:w'.heap[b]? =w.heap[b]?):w'.cell? ⟨b,o,none⟩=w.cell? ⟨b,o,none⟩:=World.cell?_of_block (w:=w) (a:=⟨b,o,none⟩) h
mutual
theorem eF{E E':Env}{w w':World}(X:Ext E E' w w'):∀(x:AV)(v:Value),ah E w x v→ah E' w' x v
 | .any,_,_=>by rw[ah];trivial
 | .val u,v,h=>by rw[ah] at h⊢;exact h
 | .agg l,v,h=>by
  rw[ah] at h⊢
  obtain⟨cs,rfl,h⟩:=h
  exact⟨cs,rfl,fw X l cs h⟩
 | .al l,v,h=>by
  rw[ah] at h⊢
  obtain⟨cs,rfl,h⟩:=h
  exact⟨cs,rfl,fw X l cs h⟩
 | .bs z l,v,h=>by
  rw[ah] at h⊢
  obtain⟨a,n,c,rfl,h1,h2,h3,h4,h5⟩:=h
  refine⟨a,n,c,rfl,h1,h2,h3,h4,fun i x hx=> ?_⟩
  obtain⟨b,o,h6,h7,h8⟩:=h5 i x hx
  exact⟨b,o,h6,X.aD z b h7,(World.cell_of_heap (X.cell z b h7)).trans h8⟩
 | .sl z sz f d l,v,h=>by
  rw[ah] at h⊢
  obtain⟨a,n,c,rfl,h1,h2,h3,h4,h5⟩:=h
  refine⟨a,n,c,rfl,h1,h2,h3,h4,fun i x hx=> ?_⟩
  obtain⟨b,o,cs,h6,h7,h8,h9,jo⟩:=h5 i x hx
  exact⟨b,o,cs,h6,X.aD z b h7,h8,fw X (f x) cs h9,fun j u hu=>(World.cell_of_heap (X.cell z b h7)).trans (jo j u hu)⟩
 | .own r ver sz off n,v,h=>by
  rw[ah] at h⊢
  obtain⟨h0,h⟩:=h
  refine⟨Nat.le_trans h0 (X.ver r),fun e=> ?_⟩
  have e1:E'.ver r=E.ver r:=by have:=X.ver r;omega
  obtain⟨a,c,rfl,h1,h2,h3,h4⟩:=h (by omega)
  refine⟨a,c,rfl,h1,h2,h3,h4.imp id fun⟨wu,h5,cur,T,fz,h6,h7⟩=> ?_⟩
  obtain⟨cR,T',dX,h8,h9⟩:=X.grow _ cur T fz h6
  rw[X.di r e1]
  exact⟨fun q=>wu ((X.abs r e1).1 q),h5,cR,T',dX,h8,Nat.le_trans h7 h9⟩
 | .ref r ver sz i j,v,h=>by
  rw[ah] at h⊢
  obtain⟨h0,h⟩:=h
  refine⟨Nat.le_trans h0 (X.ver r),fun e=> ?_⟩
  have e1:E'.ver r=E.ver r:=by have:=X.ver r;omega
  rw[X.di r e1]
  exact h (by omega)
 | .cp z cells j,v,h=>by
  rw[ah] at h⊢
  obtain⟨b,o,cs,rfl,h7,h9,jo⟩:=h
  exact⟨b,o,cs,rfl,X.aD z b h7,fw X cells cs h9,fun j u hu=>(World.cell_of_heap (X.cell z b h7)).trans (jo j u hu)⟩
 | .clo f caps,v,h=>by
  rw[ah] at h⊢
  obtain⟨cs,rfl,h⟩:=h
  exact⟨cs,rfl,fw X caps cs h⟩
 | .fI r ver,v,h=>by
  rw[ah] at h⊢
  obtain⟨h0,h⟩:=h
  refine⟨Nat.le_trans h0 (X.ver r),fun e=> ?_⟩
  have e1:E'.ver r=E.ver r:=by have:=X.ver r;omega
  rw[X.di r e1]
  exact h (by omega)
 | .pl r ver i off n,v,h=>by
  rw[ah] at h⊢
  obtain⟨h0,h⟩:=h
  refine⟨Nat.le_trans h0 (X.ver r),fun e=> ?_⟩
  have e1:E'.ver r=E.ver r:=by have:=X.ver r;omega
  obtain⟨a,c,rfl,h1,h2,h3,h4⟩:=h (by omega)
  refine⟨a,c,rfl,h1,h2,h3,h4.imp id fun⟨b,wu,h5,cur,T,fz,h6,h7⟩=> ?_⟩
  obtain⟨cR,T',dX,h8,h9⟩:=X.grow _ cur T fz h6
  exact⟨b,X.pl r e1 i b wu,h5,cR,T',dX,h8,Nat.le_trans h7 h9⟩
 | .gU r ver i k,v,h=>by
  rw[ah] at h⊢
  obtain⟨h0,h⟩:=h
  refine⟨Nat.le_trans h0 (X.ver r),fun e=> ?_⟩
  have e1:E'.ver r=E.ver r:=by have:=X.ver r;omega
  obtain⟨b,h1,h2⟩:=h (by omega)
  exact⟨b,X.pl r e1 i b h1,h2⟩
 | .gd φ x,v,h=>by
  rw[ah] at h⊢
  exact⟨fun p=>eF X x v (h.1 p),h.2⟩
theorem fw{E E':Env}{w w':World}(X:Ext E E' w w'):∀(xs:List AV)(vs:List Value),aw E w xs vs→aw E' w' xs vs
 | [],vs,h=>by rw[aw] at h⊢;exact h
 | x::xs,vs,h=>by
  rw[aw] at h⊢
  obtain⟨v,cQ,rfl,h1,h2⟩:=h
  exact⟨v,cQ,rfl,eF X x v h1,fw X xs cQ h2⟩
end

/-! rows -/
def Bd.at:Bd→Nat→Option (List AV)
 | .dead,_=>none
 | .bytes l,i=>(l[i]?).map fun b=>[.val (bv b)]
 | .row _ f _ l,i=>(l[i]?).map f
 | .obj l,i=>if i=0 then some l else none
 | .lp ..,_=>none
 | .aB _,_=>none
def Bd.sz:Bd→Nat
 | .dead=>0
 | .bytes _=>1
 | .row sz _ _ _=>sz
 | .obj l=>l.length
 | .lp .. =>0
 | .aB _=>0
def Bd.count:Bd→Nat
 | .dead=>0
 | .bytes l=>l.length
 | .row _ _ _ l=>l.length
 | .obj _=>1
 | .lp .. =>1
 | .aB _=>1
def Bd.live:Bd→Bool
 | .dead=>false
 | .aB _=>false
 | _=>true
def Bd.jq:Bd→Bool
 | .aB _=>true
 | _=>false
def Bd.iu:Bd→Bool
 | .dead=>false
 | .lp .. =>false
 | .aB _=>false
 | _=>true
def Bd.nh:Bd→Bool
 | .lp .. =>true
 | .aB _=>true
 | _=>false
theorem Bd.rD{b:Bd}(h:b.iu=true):b.nh=false:=by cases b<;>first | rfl | cases h
theorem Bd.og{b:Bd}(h:b.nh=false){i tR st}:b≠.lp i tR st:=by intro e;rw[e] at h;cases h
theorem Bd.oh{b:Bd}(h:b.nh=false):b.jq=false:=by cases b<;>first | rfl | cases h
theorem Bd.pN{b:Bd}(h:b.iu=true):b.live=true:=by cases b<;>first | rfl | cases h
theorem Bd.mf{b:Bd}{i:Nat}{ys:List AV}(h:b.at i=some ys):i<b.count:=by
 cases b with
 | dead=>simp[Bd.at] at h
 | bytes l=>
  simp only[Bd.at,Option.map_eq_some_iff] at h
  obtain⟨x,hx,_⟩:=h
  exact(List.getElem?_eq_some_iff.1 hx).1
 | row sz f d l=>
  simp only[Bd.at,Option.map_eq_some_iff] at h
  obtain⟨x,hx,_⟩:=h
  exact(List.getElem?_eq_some_iff.1 hx).1
 | obj l=>
  simp only[Bd.at] at h
  split at h
  ·simp[Bd.count];assumption
  ·cases h
 | lp=>simp[Bd.at] at h
 | aB=>simp[Bd.at] at h
structure fx(E:Env)(w:World)(b:Nat)(bd:Bd):Prop where
 aO:bd.iu=true→∃cur T lo hi,w.heap[b]? =some (.cells cur T (lo,hi))∧(hi=lo∨cur.size≤lo)∧bd.count*bd.sz≤cur.size∧
  ∀i ys,bd.at i=some ys→∃cs,cs.length=bd.sz∧aw E w ys cs∧∀j u,cs[j]? =some u→cur[i*bd.sz+j]? =some u
 lp:∀i tR st,bd= .lp i tR st→b=i.l∧∃R:Loop,w.heap[b]? =some (.loop R)∧R.params=i.ps∧R.assign=i.fX∧R.body=i.body∧R.pending=st∧R.state=(if st.isNone then .ready else .done)∧R.tmps=i.tv∧aw E w tR i.tv.toList∧
  ∀D∈i.ks,(∃z,E.aD z D)∧w.heap[D]? =some (.deferred (some []))
theorem fx.ext{E E':Env}{w w':World}{b:Nat}{bd:Bd}(X:Ext E E' w w')(h:fx E w b bd)(hb:w'.heap[b]? =w.heap[b]?):fx E' w' b bd:=
 ⟨fun hl=>by
  obtain⟨cur,T,lo,hi,h1,h2,h3,h4⟩:=h.aO hl
  exact⟨cur,T,lo,hi,hb.trans h1,h2,h3,fun i ys hy=>by
   obtain⟨cs,h5,h6,h7⟩:=h4 i ys hy
   exact⟨cs,h5,fw X ys cs h6,h7⟩⟩,fun i tR st e=>by
  obtain⟨h0,R,h1,h2,h3,h4,h5,h6,h7,h8,h9⟩:=h.lp _ _ _ e
  refine⟨h0,R,hb.trans h1,h2,h3,h4,h5,h6,h7,fw X tR _ h8,fun D hD=> ?_⟩
  obtain⟨⟨z,hz⟩,hh⟩:=h9 D hD
  exact⟨⟨z,X.aD z D hz⟩,(X.cell z D hz).trans hh⟩⟩
def bH(E:Env)(r:Nat)(e:U):Prop:=e.bd.live=true∧¬E.abs r
def Gl(E:Env)(w:World):Prop:=∀g cs,pO g=some cs→E.aD 0 g∧∀(j:Nat)(u:Value),cs[j]? =some u→w.cell? ⟨g,j,none⟩=some u
theorem Gl.ext{E E':Env}{w w':World}(X:Ext E E' w w')(h:Gl E w):Gl E' w':=fun g cs hg=>by
 obtain⟨h1,h2⟩:=h g cs hg
 exact⟨X.aD 0 g h1,fun j u hu=>(World.cell_of_heap (X.cell 0 g h1)).trans (h2 j u hu)⟩
def aE(E:Env)(r:Nat)(e:U)(b:Nat):Prop:=(bH E r e∧E.ρ r=b)∨(e.bd.jq=true∧∃i,E.pl r i=some b)
theorem aE.of{E:Env}{r:Nat}{e:U}(h:bH E r e):aE E r e (E.ρ r):= .inl ⟨h,rfl⟩
theorem aE.dead{E:Env}{r v b:Nat}:¬aE E r ⟨v,.dead⟩ b:=by
 rintro(⟨⟨h,_⟩,_⟩ | ⟨h,_⟩)<;>cases h
structure oi(pl:Nat→Option Nat)(w:World)(ls:List (List UInt8)):Prop where
 has:∀(i:Nat)(l:List UInt8),ls[i]? =some l→l≠[]→∃b,pl i=some b
 aO:∀(i:Nat)(l:List UInt8)(b:Nat),ls[i]? =some l→pl i=some b→∃cur T lo hi,w.heap[b]? =some (.cells cur T (lo,hi))∧(hi=lo∨cur.size≤lo)∧l.length≤cur.size∧∀(j:Nat)(x:UInt8),l[j]? =some x→cur[j]? =some (bv x)
 inj:∀i j b,pl i=some b→pl j=some b→i=j
 top:∀i b,pl i=some b→i<ls.length
theorem oi.lt{pl:Nat→Option Nat}{w:World}{ls:List (List UInt8)}(h:oi pl w ls){i b:Nat}(hb:pl i=some b):b<w.heap.size:=by
 obtain⟨cur,T,lo,hi,h1,_⟩:=h.aO i _ b (List.getElem?_eq_getElem (h.top i b hb)) hb
 exact(Array.getElem?_eq_some_iff.1 h1).1
theorem oi.lx{pl:Nat→Option Nat}{w w':World}{ls:List (List UInt8)}(h:oi pl w ls)(hw:∀i b,pl i=some b→w'.heap[b]? =w.heap[b]?):oi pl w' ls:=
 ⟨h.has,fun i l b hl hb=>by rw[hw i b hb];exact h.aO i l b hl hb,h.inj,h.top⟩
structure HR(E:Env)(w:World)(H:List U):Prop where
 ver:∀(r:Nat)(e:U),H[r]? =some e→E.ver r=e.ver
 bM:∀(r:Nat)(e:U),H[r]? =some e→bH E r e→fx E w (E.ρ r) e.bd
 abs:∀(r:Nat)(e:U),H[r]? =some e→E.abs r→e.bd.count=0
 inj:∀(r r':Nat)(e e':U)(b:Nat),H[r]? =some e→H[r']? =some e'→aE E r e b→aE E r' e' b→r=r'
 cJ:∀z b,E.aD z b→b<w.heap.size
 dj:∀(r:Nat)(e:U)(b:Nat),H[r]? =some e→aE E r e b→∀z,¬E.aD z b
 top:∀r,H.length≤r→E.ver r=0∧¬E.abs r
 gl:Gl E w
 aB:∀(r v:Nat)(ls:List (List UInt8)),H[r]? =some ⟨v,.aB ls⟩→oi (E.pl r) w ls
theorem HR.lt{E:Env}{w:World}{H:List U}(h:HR E w H){r:Nat}{e:U}(hr:H[r]? =some e)(hl:bH E r e):E.ρ r<w.heap.size:=by
 have he:=h.bM r e hr hl
 cases hb:e.bd with
 | dead=>have:=hl.1;rw[hb] at this;cases this
 | aB=>have:=hl.1;rw[hb] at this;cases this
 | lp i tR st=>
  obtain⟨_,R,h1,_⟩:=he.lp _ _ _ hb
  exact(Array.getElem?_eq_some_iff.1 h1).1
 | bytes l=>obtain⟨cur,T,lo,hi,h1,_⟩:=he.aO (by rw[hb];rfl);exact(Array.getElem?_eq_some_iff.1 h1).1
 | row sz f d l=>obtain⟨cur,T,lo,hi,h1,_⟩:=he.aO (by rw[hb];rfl);exact(Array.getElem?_eq_some_iff.1 h1).1
 | obj l=>obtain⟨cur,T,lo,hi,h1,_⟩:=he.aO (by rw[hb];rfl);exact(Array.getElem?_eq_some_iff.1 h1).1
theorem AP{e:U}(h:e.bd.jq=true):∃ls,e=⟨e.ver,.aB ls⟩:=by
 obtain⟨v,bd⟩:=e
 cases bd<;>first | exact⟨_,rfl⟩ | cases h
theorem HR.blt{E:Env}{w:World}{H:List U}(h:HR E w H){r:Nat}{e:U}(hr:H[r]? =some e){b:Nat}(hb:aE E r e b):b<w.heap.size:=by
 rcases hb with⟨hl,rfl⟩ | ⟨hp,i,hi⟩
 ·exact h.lt hr hl
 ·obtain⟨ls,he⟩:=AP hp
  rw[he] at hr
  exact(h.aB r _ ls hr).lt hi
theorem HR.tM{E:Env}{w:World}{H:List U}(h:HR E w H)(r:Nat)(e:U)(hr:H[r]? =some e)(hl:bH E r e)(z:Nat):¬E.aD z (E.ρ r):=h.dj r e _ hr (aE.of hl) z
structure Fr(w0:World)(keep:Nat→Prop)(E:Env)(H:List U)(w:World):Prop where
 os:w.os=w0.os
 tape:w.tape=w0.tape
 output:w.output=w0.output
 size:w0.heap.size≤w.heap.size
 block:∀k,k<w0.heap.size→keep k→w.heap[k]? =w0.heap[k]?
 grow:∀(k:Nat) cur T fz,w0.heap[k]? =some (.cells cur T fz)→∃cR T' dX,w.heap[k]? =some (.cells cR T' dX)∧cur.size≤cR.size
 rows:∀(r:Nat)(e:U)(b:Nat),H[r]? =some e→aE E r e b→b<w0.heap.size→¬keep b
end Go.Proofs.YtpbpiehcchannaaGreatDoor

/-! Abstract values: what the operations that touch no memory make of them. Conditions: what 'TIok' says of the types. -/
namespace Go.Proofs.YtpbpiehcchannaaGreatDoor
set_option linter.unusedVariables false
set_option linter.unusedSimpArgs false
inductive UK where
 | int (k:IntKind) | bool | string | ptr (E:TypeId) | slice (E:TypeId) | array (n:Nat) (E:TypeId) | struct (fs:List (Nat×TypeId)) | func | other
structure TI where
 u:UK
 sz:Nat
 bytes:Nat
 zero:List Value
 cmp:Bool
def dm(k:IntKind)(n:Int):Prop:=match k with
 | .i8=> -128≤n∧n≤127
 | .i16=> -32768≤n∧n≤32767
 | .i32=> -2147483648≤n∧n≤2147483647
 | .i64=> -9223372036854775808≤n∧n≤9223372036854775807
 | .u8=>0≤n∧n≤255
 | .u16=>0≤n∧n≤65535
 | .u32=>0≤n∧n≤4294967295
 | .u64=>0≤n∧n≤18446744073709551615
def ni:Value→Value→Prop
 | .int k _,.int k' n=>k'=k∧dm k n
 | .bool _,.bool _=>True
 | .string _,.string s=>s.size≤maxLen
 | _,_=>False
def fY:List Value→List Value→Prop
 | [],[]=>True
 | x::xs,y::ys=>ni x y∧fY xs ys
 | _,_=>False
def rE:Value→Value→Bool
 | .int _ a,.int _ b=>decide (a=b)
 | .bool a,.bool b=>decide (a=b)
 | .string a,.string b=>decide (a.data.toList=b.data.toList)
 | _,_=>false
def mg:List Value→List Value→Bool
 | [],[]=>true
 | x::xs,y::ys=>rE x y&&mg xs ys
 | _,_=>false
def tN(P:Program)(t:TypeId)(z:List Value):Prop:=∀(w:World)(vs ws:List Value)(x y:Operand),fY z vs→fY z ws→
 (eqGuard .eql t x y (.agg vs.toArray) (.agg ws.toArray)).run P w= .ok () w∧(eqGuard .neq t x y (.agg vs.toArray) (.agg ws.toArray)).run P w= .ok () w∧
 (binOp .eql t (.agg vs.toArray) (.agg ws.toArray)).run P w= .ok (.bool (mg vs ws)) w∧(binOp .neq t (.agg vs.toArray) (.agg ws.toArray)).run P w= .ok (.bool (!mg vs ws)) w
def UK.ok(P:Program)(t:TypeId):UK→Prop
 | .int k=>P.underlying t=some (.int k)
 | .bool=>P.underlying t=some .bool
 | .string=>P.underlying t=some .string
 | .ptr E=>P.underlying t=some (.pointer E)
 | .slice E=>P.underlying t=some (.slice E)
 | .array n E=>P.underlying t=some (.array n E)
 | .struct fs=>∃jr,P.underlying t=some (.struct jr)∧jr.toList.map (fun f=>(f.offset,f.type))=fs
 | .func=>∃a b c,P.underlying t=some (.func a b c)
 | .other=>True
def UK.isAgg:UK→Bool
 | .struct _ | .array _ _=>true
 | _=>false
structure aU(P:Program)(t:TypeId)(ti:TI):Prop where
 u:ti.u.ok P t
 info:∃z,(P.info? t).map (fun i=>(i.zero,i.size,i.bytes))=some (some z,ti.sz,ti.bytes)∧z.cells.toList=ti.zero
 nj:ti.zero.length=ti.sz
 cmp:ti.cmp=true→tN P t ti.zero
def cj(P:Program)(tb:TypeId→Option TI):Prop:=∀t ti,tb t=some ti→aU P t ti

def aT{α:Type 1}:List α→Nat→Option α
 | [],_=>none
 | x::_,0=>some x
 | _::l,n+1=>aT l n
theorem bS{α:Type 1}:∀(l:List α)(i:Nat),aT l i=l[i]?
 | [],_=>rfl
 | _::_,0=>rfl
 | _::l,i+1=>by simpa [aT] using bS l i
def bn(l:List AV)(i:Nat):AV:=match aT l i with | some x=>x | none=> .any
def aH{α:Type 1}:List α→Nat→α→List α
 | [],_,_=>[]
 | _::l,0,v=>v::l
 | x::l,n+1,v=>x::aH l n v
theorem bI{α:Type 1}:∀(l:List α)(i:Nat)(v:α),aH l i v=l.set i v
 | [],_,_=>rfl
 | _::_,0,_=>rfl
 | _::l,i+1,v=>by simp[aH,bI l i v]
def fj{α:Type 1}:List α→Nat→List α
 | l,0=>l
 | [],_+1=>[]
 | _::l,n+1=>fj l n
theorem pP{α:Type 1}:∀(l:List α)(i:Nat),fj l i=l.drop i
 | _,0=>by simp[fj]
 | [],_+1=>by simp[fj]
 | _::l,i+1=>by simp[fj,pP l i]
def fZ{α:Type 1}:List α→Nat→List α
 | _,0=>[]
 | [],_+1=>[]
 | x::l,n+1=>x::fZ l n
theorem pQ{α:Type 1}:∀(l:List α)(i:Nat),fZ l i=l.take i
 | _,0=>by simp[fZ]
 | [],_+1=>by simp[fZ]
 | _::l,i+1=>by simp[fZ,pQ l i]

/-! integers -/
theorem wv{k:IntKind}{n:Int}(h:dm k n):k.wrap n=n:=by
 cases k<;>simp only[dm] at h<;>simp[IntKind.wrap,IntKind.signed,IntKind.bits]<;>omega
theorem wrap_u8(n:Int):IntKind.u8.wrap n=n%256:=by simp[IntKind.wrap,IntKind.signed,IntKind.bits]
theorem wrap_u16(n:Int):IntKind.u16.wrap n=n%65536:=by simp[IntKind.wrap,IntKind.signed,IntKind.bits]
theorem wrap_u32(n:Int):IntKind.u32.wrap n=n%4294967296:=by simp[IntKind.wrap,IntKind.signed,IntKind.bits]
theorem wrap_u64(n:Int):IntKind.u64.wrap n=n%18446744073709551616:=by simp[IntKind.wrap,IntKind.signed,IntKind.bits]
abbrev KF:=Prop→AV→List (Nat×U)→Prop
def ar(k:IntKind)(n:Int)(K:Prop→AV→Prop):Prop:=match k with
 | .i64=>K (dm .i64 n) (.val (.int .i64 n))
 | .u8=>K True (.val (.int .u8 (n%256)))
 | .u16=>K True (.val (.int .u16 (n%65536)))
 | .u32=>K True (.val (.int .u32 (n%4294967296)))
 | .u64=>K True (.val (.int .u64 (n%18446744073709551616)))
 | k=>K True (.val (.int k (k.wrap n)))
theorem pR{k:IntKind}{n:Int}{K:Prop→AV→Prop}(h:ar k n K):∃Φ m,K Φ (.val (.int k m))∧(Φ→k.wrap n=m):=by
 cases k<;>simp only[ar] at h
 case i64=>exact⟨_,_,h,fun p=>wv p⟩
 case u8=>exact⟨_,_,h,fun _=>wrap_u8 n⟩
 case u16=>exact⟨_,_,h,fun _=>wrap_u16 n⟩
 case u32=>exact⟨_,_,h,fun _=>wrap_u32 n⟩
 case u64=>exact⟨_,_,h,fun _=>wrap_u64 n⟩
 all_goals exact⟨_,_,h,fun _=>rfl⟩
def AQ(k:IntKind)(a b:Int)(K:Prop→AV→Prop):Prop:=match k with
 | .i64=>if b=4294967295 then K True (.val (.int .i64 (a%4294967296))) else K (0≤a∧0≤b∧dm .i64 a∧dm .i64 b) (.val (.int .i64 ((a.toNat&&&b.toNat:Nat):Int)))
 | k=>K (0≤a∧0≤b∧dm k a∧dm k b) (.val (.int k ((a.toNat&&&b.toNat:Nat):Int)))
def wx(op:BinOp)(k:IntKind)(a b:Int)(K:Prop→AV→Prop):Prop:=match op with
 | .add=>ar k (a+b) K
 | .sub=>ar k (a - b) K
 | .mul=>ar k (a*b) K
 | .quo=>K (0≤a∧dm k a∧0<b) (.val (.int k (a/b)))
 | .rem=>K (0≤a∧dm k a∧0<b) (.val (.int k (a%b)))
 | .and=>AQ k a b K
 | .or=>K (0≤a∧0≤b∧dm k a∧dm k b) (.val (.int k ((a.toNat|||b.toNat:Nat):Int)))
 | .xor=>K (0≤a∧0≤b∧dm k a∧dm k b) (.val (.int k ((a.toNat^^^b.toNat:Nat):Int)))
 | .eql=>K True (.val (.bool (decide (a=b))))
 | .neq=>K True (.val (.bool (!decide (a=b))))
 | .lss=>K True (.val (.bool (decide (a<b))))
 | .leq=>K True (.val (.bool (decide (a≤b))))
 | .gtr=>K True (.val (.bool (decide (b<a))))
 | .geq=>K True (.val (.bool (decide (b≤a))))
 | _=>False
theorem nk{k:IntKind}{a:Int}(h:dm k a)(h0:0≤a):a.toNat<2^k.bits:=by
 cases k<;>simp only[dm] at h<;>simp only[IntKind.bits]<;>omega
theorem rF{k:IntKind}{a:Int}(h:dm k a)(h0:0≤a)(hs:k.signed=true):a.toNat<2^(k.bits - 1):=by
 cases k<;>simp only[dm] at h<;>simp only[IntKind.bits]<;>simp[IntKind.signed] at hs<;>omega
theorem rG{k:IntKind}{n:Nat}(h:n<2^k.bits)(hs:k.signed=true→n<2^(k.bits - 1)):k.wrap n=n:=by
 apply wv
 cases k<;>simp[IntKind.bits,IntKind.signed] at h hs<;>simp only[dm]<;>omega
theorem nl{k:IntKind}{a:Int}(h:dm k a)(h0:0≤a):(BitVec.ofInt k.bits a).toNat=a.toNat:=by
 have h1:=nk h h0
 rw[BitVec.toNat_ofInt]
 cases k<;>simp only[IntKind.bits] at h1⊢<;>omega
variable {P:Program}
theorem Gx {op : BinOp} {k : IntKind} {a b : Int} {K : Prop → AV → Prop} (T : TypeId) (h : wx op k a b K) :
    ∃Φ u,K Φ (.val u)∧(Φ→∀w,(binOp op T (.int k a) (.int k b)).run P w= .ok u w):=by
 cases op<;>simp only[wx] at h
 case add=>obtain⟨Φ,m,h1,h2⟩:=pR h;exact⟨Φ,_,h1,fun p w=>by simp[binOp,Op.intArith,h2 p]⟩
 case sub=>obtain⟨Φ,m,h1,h2⟩:=pR h;exact⟨Φ,_,h1,fun p w=>by simp[binOp,Op.intArith,h2 p]⟩
 case mul=>obtain⟨Φ,m,h1,h2⟩:=pR h;exact⟨Φ,_,h1,fun p w=>by simp[binOp,Op.intArith,h2 p]⟩
 case quo=>exact⟨_,_,h,fun p w=>by
  obtain⟨h0,h1,h2⟩:=p
  have e:a.tdiv b=a/b:=Int.tdiv_eq_ediv_of_nonneg h0
  have hd:0≤a/b:=Int.ediv_nonneg h0 (by omega)
  have hle:a/b≤a:=Int.ediv_le_self _ h0
  have hk:dm k (a/b):=by cases k<;>simp only[dm] at h1⊢<;>omega
  have hb:¬b=0:=by omega
  simp[binOp,Op.intDiv,hb,e,wv hk]⟩
 case rem=>exact⟨_,_,h,fun p w=>by
  obtain⟨h0,h1,h2⟩:=p
  have e:a.tmod b=a%b:=Int.tmod_eq_emod_of_nonneg h0
  have hb:¬b=0:=by omega
  simp[binOp,Op.intDiv,hb,e]⟩
 case and=>
  have nm:K (0≤a∧0≤b∧dm k a∧dm k b) (.val (.int k ((a.toNat&&&b.toNat:Nat):Int)))→∃Φ u,K Φ (.val u)∧(Φ→∀w,(binOp .and T (.int k a) (.int k b)).run P w= .ok u w):=fun h=>⟨_,_,h,fun p w=>by
   obtain⟨h0,h1,h2,h3⟩:=p
   have e:k.wrap ((BitVec.ofInt k.bits a&&&BitVec.ofInt k.bits b).toNat:Int)=((a.toNat&&&b.toNat:Nat):Int):=by
    rw[BitVec.toNat_and,nl h2 h0,nl h3 h1]
    exact rG (Nat.and_lt_two_pow _ (nk h3 h1)) (fun hs=>Nat.and_lt_two_pow _ (rF h3 h1 hs))
   simp only[binOp,ne_eq,not_true_eq_false,if_false,Op.intBits,Sem.run_pure,e]⟩
  unfold AQ at h
  split at h
  ·split at h
   ·rename_i hb
    subst hb
    refine⟨_,_,h,fun _ w=> ?_⟩
    have e:IntKind.i64.wrap ((BitVec.ofInt IntKind.i64.bits a&&&BitVec.ofInt IntKind.i64.bits 4294967295).toNat:Int)=a%4294967296:=by
     have e1:(BitVec.ofInt IntKind.i64.bits 4294967295).toNat=2^32 - 1:=rfl
     have e2:(BitVec.ofInt IntKind.i64.bits a).toNat=(a%18446744073709551616).toNat:=by
      rw[BitVec.toNat_ofInt];rfl
     rw[BitVec.toNat_and,e1,e2,Nat.and_two_pow_sub_one_eq_mod]
     have e3:(((a%18446744073709551616).toNat%2^32:Nat):Int)=a%4294967296:=by omega
     rw[←e3]
     have ai:(a%18446744073709551616).toNat%2^32<2^32:=Nat.mod_lt _ (by decide)
     exact rG (Nat.lt_of_lt_of_le ai (by decide)) (fun _=>Nat.lt_of_lt_of_le ai (by decide))
    simp only[binOp,ne_eq,not_true_eq_false,if_false,Op.intBits,Sem.run_pure,e]
   ·exact nm h
  ·exact nm h
 case or=>exact⟨_,_,h,fun p w=>by
  obtain⟨h0,h1,h2,h3⟩:=p
  have e:k.wrap ((BitVec.ofInt k.bits a|||BitVec.ofInt k.bits b).toNat:Int)=((a.toNat|||b.toNat:Nat):Int):=by
   rw[BitVec.toNat_or,nl h2 h0,nl h3 h1]
   exact rG (Nat.or_lt_two_pow (nk h2 h0) (nk h3 h1)) (fun hs=>Nat.or_lt_two_pow (rF h2 h0 hs) (rF h3 h1 hs))
  simp only[binOp,ne_eq,not_true_eq_false,if_false,Op.intBits,Sem.run_pure,e]⟩
 case xor=>exact⟨_,_,h,fun p w=>by
  obtain⟨h0,h1,h2,h3⟩:=p
  have e:k.wrap ((BitVec.ofInt k.bits a^^^BitVec.ofInt k.bits b).toNat:Int)=((a.toNat^^^b.toNat:Nat):Int):=by
   rw[BitVec.toNat_xor,nl h2 h0,nl h3 h1]
   exact rG (Nat.xor_lt_two_pow (nk h2 h0) (nk h3 h1)) (fun hs=>Nat.xor_lt_two_pow (rF h2 h0 hs) (rF h3 h1 hs))
  simp only[binOp,ne_eq,not_true_eq_false,if_false,Op.intBits,Sem.run_pure,e]⟩
 case eql=>exact⟨_,_,h,fun p w=>by simp only[binOp,ne_eq,not_true_eq_false,if_false,Op.intCmp,Sem.run_pure];rfl⟩
 case neq=>exact⟨_,_,h,fun p w=>by simp only[binOp,ne_eq,not_true_eq_false,if_false,Op.intCmp,Sem.run_pure];rfl⟩
 case lss=>exact⟨_,_,h,fun p w=>by simp only[binOp,ne_eq,not_true_eq_false,if_false,Op.intCmp,Sem.run_pure]⟩
 case leq=>exact⟨_,_,h,fun p w=>by simp only[binOp,ne_eq,not_true_eq_false,if_false,Op.intCmp,Sem.run_pure]⟩
 case gtr=>exact⟨_,_,h,fun p w=>by simp only[binOp,ne_eq,not_true_eq_false,if_false,Op.intCmp,Sem.run_pure]⟩
 case geq=>exact⟨_,_,h,fun p w=>by simp only[binOp,ne_eq,not_true_eq_false,if_false,Op.intCmp,Sem.run_pure]⟩
 all_goals exact h.elim
def tO(op:BinOp)(k:IntKind)(a b:Int)(K:Prop→AV→Prop):Prop:=match op with
 | .shr=>K (0≤a∧dm k a∧0≤b) (.val (.int k (a/2^b.toNat)))
 | .shl=>ar k (a*2^b.toNat) fun Φ v=>K (Φ∧0≤b∧b≤k.bits) v
 | _=>False
theorem AR {op : BinOp} {k k' : IntKind} {a b : Int} {K : Prop → AV → Prop} (T : TypeId) (h : tO op k a b K) :
    ∃Φ u,K Φ (.val u)∧(Φ→∀w,(binOp op T (.int k a) (.int k' b)).run P w= .ok u w):=by
 cases op<;>simp only[tO] at h
 case shl=>
  obtain⟨Φ,m,h1,h2⟩:=pR h
  refine⟨_,_,h1,fun p w=> ?_⟩
  obtain⟨p1,p2,p3⟩:=p
  have hb:¬b<0:=by omega
  have e:min b.toNat k.bits=b.toNat:=by omega
  simp[binOp,Op.shift,hb,e,h2 p1]
 case shr=>
  refine⟨_,_,h,fun p w=> ?_⟩
  obtain⟨p1,p2,p3⟩:=p
  have hb:¬b<0:=by omega
  have e:a.fdiv (2^min b.toNat k.bits)=a/2^b.toNat:=by
   rw[Int.fdiv_eq_ediv_of_nonneg _ (by have:=Int.pow_pos (n:=2) (m:=min b.toNat k.bits) (by decide);omega)]
   by_cases hle:b.toNat≤k.bits
   ·rw[Nat.min_eq_left hle]
   ·rw[Nat.min_eq_right (by omega)]
    have ai:=nk p2 p1
    have h1:a<2^k.bits:=by
     have:((a.toNat:Nat):Int)< ((2^k.bits:Nat):Int):=by exact_mod_cast ai
     rw[Int.toNat_of_nonneg p1] at this
     simpa using this
    have h2:(2:Int)^k.bits≤2^b.toNat:=by
     have:(2^k.bits:Nat)≤2^b.toNat:=Nat.pow_le_pow_right (by decide) (by omega)
     exact_mod_cast this
    rw[Int.ediv_eq_zero_of_lt p1 h1,Int.ediv_eq_zero_of_lt p1 (by omega)]
  simp[binOp,Op.shift,hb,e]
 all_goals exact h.elim
end Go.Proofs.YtpbpiehcchannaaGreatDoor

/-! Abstract values: rows, and what becomes of them; operations that read or write memory. Conditions: what 'TIok' says of the types. -/
namespace Go.Proofs.YtpbpiehcchannaaGreatDoor
set_option linter.unusedVariables false
set_option linter.unusedSimpArgs false
def aK:List U→List (Nat×U)→List U
 | H,[]=>H
 | H,(r,e)::us=>aK (aH H r e) us
def Hb(E:Env)(H:List U)(b:Nat):Prop:=∃(r0:Nat)(e0:U),H[r0]? =some e0∧aE E r0 e0 b
structure Out(E E':Env)(w w':World)(H:List U)(us:List (Nat×U)):Prop where
 ext:Ext E E' w w'
 hr:HR E' w' (aK H us)
 os:w'.os=w.os
 tape:w'.tape=w.tape
 output:w'.output=w.output
 size:w.heap.size≤w'.heap.size
 aD:∀z b,E'.aD z b→E.aD z b∨w.heap.size≤b∨Hb E H b
 grow:∀(k:Nat) cur T fz,w.heap[k]? =some (.cells cur T fz)→∃cR T' dX,w'.heap[k]? =some (.cells cR T' dX)∧cur.size≤cR.size
 block:∀k,k<w.heap.size→(∀(r:Nat)(e:U),H[r]? =some e→aE E r e k→r∉us.map (·.1))→w'.heap[k]? =w.heap[k]?
 rows:∀(r:Nat)(e:U)(b:Nat),(aK H us)[r]? =some e→aE E' r e b→w.heap.size≤b∨∃(r0:Nat)(e0:U),H[r0]? =some e0∧aE E r0 e0 b∧(r0=r∨r0∈us.map (·.1))
theorem Out.same{E:Env}{w:World}{H:List U}(h:HR E w H):Out E E w w H []:=
 ⟨Ext.refl _ _,h,rfl,rfl,rfl,Nat.le_refl _,fun _ _ h=> .inl h,fun _ cur T fz h=>⟨cur,T,fz,h,Nat.le_refl _⟩,fun _ _ _=>rfl,fun r e b hr hl=> .inr ⟨r,e,hr,hl,.inl rfl⟩⟩
theorem HR.drew{E:Env}{w:World}{H:List U}(h:HR E w H):HR E w.drew H:=by
 have X:Ext E E w w.drew:=⟨fun _=>Nat.le_refl _,fun _ _=>rfl,fun _ _=>Iff.rfl,fun _ _ h=>h,fun _ _ _=>rfl,fun _ cur T fz h=>⟨cur,T,fz,h,Nat.le_refl _⟩,fun _ _ _ _ h=>h⟩
 exact⟨h.ver,fun r e hr hl=>(h.bM r e hr hl).ext X rfl,h.abs,h.inj,h.cJ,h.dj,h.top,h.gl.ext X,fun r v ls hr=>(h.aB r v ls hr).lx fun _ _ _=>rfl⟩
theorem Fr.out{w0:World}{keep:Nat→Prop}{E E':Env}{w w':World}{H:List U}{us:List (Nat×U)}(h:Fr w0 keep E H w)(o:Out E E' w w' H us):Fr w0 keep E' (aK H us) w':=by
 refine⟨o.os.trans h.os,o.tape.trans h.tape,o.output.trans h.output,Nat.le_trans h.size o.size,fun k hk jD=> ?_,fun k cur T fz hk=> ?_,fun r e b hr hl ai=> ?_⟩
 ·rw[o.block k (Nat.lt_of_lt_of_le hk h.size) (fun r e hr hl _=>h.rows r e k hr hl hk jD)]
  exact h.block k hk jD
 ·obtain⟨c1,T1,f1,h1,h2⟩:=h.grow k cur T fz hk
  obtain⟨c2,T2,f2,h3,h4⟩:=o.grow k c1 T1 f1 h1
  exact⟨c2,T2,f2,h3,Nat.le_trans h2 h4⟩
 ·rcases o.rows r e b hr hl with h1 | ⟨r0,e0,h2,h3,_⟩
  ·have:=h.size;omega
  ·exact h.rows r0 e0 b h2 h3 ai
def Env.set(E:Env)(r b v:Nat):Env:={E with ρ:=fun k=>if k=r then b else E.ρ k,ver:=fun k=>if k=r then v else E.ver k,abs:=fun k=>if k=r then False else E.abs k}
theorem Env.np(E:Env)(r b v:Nat):¬(E.set r b v).abs r:=by simp[Env.set]
theorem Env.tP(E:Env){r k:Nat}(b v:Nat)(h:k≠r):(E.set r b v).abs k=E.abs k:=by simp[Env.set,h]
theorem Env.ke(E:Env)(r b v:Nat):(E.set r b v).ρ r=b:=by simp[Env.set]
theorem Env.jE(E:Env)(r b v:Nat):(E.set r b v).ver r=v:=by simp[Env.set]
theorem Env.wy(E:Env){r k:Nat}(b v:Nat)(h:k≠r):(E.set r b v).ρ k=E.ρ k:=by simp[Env.set,h]
theorem Env.wz(E:Env){r k:Nat}(b v:Nat)(h:k≠r):(E.set r b v).ver k=E.ver k:=by simp[Env.set,h]
theorem Env.tQ(E:Env){r b v:Nat}(hb:b=E.ρ r)(hv:v=E.ver r)(ha:¬E.abs r):E.set r b v=E:=by
 cases E with
 | mk ρ ver aD abs pl=>
  simp only[Env.set,Env.mk.injEq,true_and,and_true]
  refine⟨funext fun k=> ?_,funext fun k=> ?_,funext fun k=> ?_⟩<;>split<;>simp_all
theorem Out.one {E : Env} {w w' : World} {H : List U} {r0 b v' : Nat} {e0 : U} {bd' : Bd} (hr : HR E w H) (h0 : H[r0]? = some e0) (hP : bd'.jq = false) (hv : v' = e0.ver ∧ b = E.ρ r0 ∧ ¬ E.abs r0 ∨ e0.ver < v')
    (hb:b=E.ρ r0∧bH E r0 e0∨w.heap.size≤b) (os:w'.os=w.os) (tape:w'.tape=w.tape) (output:w'.output=w.output) (size:w.heap.size≤w'.heap.size)
    (aO:∀k,k<w.heap.size→k≠b→w'.heap[k]? =w.heap[k]?)
    (sz:∀cur T fz,w.heap[b]? =some (.cells cur T fz)→∃cR T' dX,w'.heap[b]? =some (.cells cR T' dX)∧cur.size≤cR.size)
    (bM:Ext E (E.set r0 b v') w w'→fx (E.set r0 b v') w' b bd'):Out E (E.set r0 b v') w w' H [(r0,⟨v',bd'⟩)]:=by
 have gh:=hr.ver r0 e0 h0
 have mh:r0<H.length:=(List.getElem?_eq_some_iff.1 h0).1
 have AS:∀z c,E.aD z c→c≠b:=by
  intro z c hz e
  subst e
  rcases hb with⟨h1,h2⟩ | h1
  ·exact hr.tM r0 e0 h0 h2 z (h1▸hz)
  ·have:=hr.cJ z c hz;omega
 have gr:∀(k:Nat) cur T fz,w.heap[k]? =some (.cells cur T fz)→∃cR T' dX,w'.heap[k]? =some (.cells cR T' dX)∧cur.size≤cR.size:=fun k cur T fz hk=>by
  by_cases h:k=b
  ·subst h;exact sz cur T fz hk
  ·exact⟨cur,T,fz,by rw[aO k (Array.getElem?_eq_some_iff.1 hk).1 h];exact hk,Nat.le_refl _⟩
 have X:Ext E (E.set r0 b v') w w':=by
  refine⟨fun r=> ?_,fun r e=> ?_,fun r e=> ?_,fun z c h=>h,fun z c hz=>aO c (hr.cJ z c hz) (AS z c hz),gr,fun _ _ _ _ h=>h⟩
  ·by_cases h:r=r0
   ·subst h;rw[Env.jE,gh];rcases hv with h | h<;>omega
   ·rw[Env.wz E b v' h];exact Nat.le_refl _
  ·by_cases h:r=r0
   ·subst h;rw[Env.jE] at e;rw[Env.ke];rcases hv with h | h
    ·exact h.2.1
    ·omega
   ·rw[Env.wy E b v' h]
  ·by_cases h:r=r0
   ·subst h;rw[Env.jE] at e;rcases hv with h | h
    ·exact⟨fun q=>absurd q (Env.np E r b v'),fun q=>absurd q h.2.2⟩
    ·omega
   ·rw[Env.tP E b v' h]
 have aL:∀(r:Nat)(e:U),(aK H [(r0,⟨v',bd'⟩)])[r]? =some e→r=r0∧e=⟨v',bd'⟩∨r≠r0∧H[r]? =some e:=by
  intro r e h
  simp only[aK,bI] at h
  by_cases iJ:r=r0
  ·subst iJ;rw[List.getElem?_set_self mh] at h;exact .inl ⟨rfl,(Option.some.inj h).symm⟩
  ·rw[List.getElem?_set_ne (Ne.symm iJ)] at h;exact .inr ⟨iJ,h⟩
 have aF:∀(r:Nat)(e:U),r≠r0→H[r]? =some e→¬aE E r e b:=by
  intro r e h1 h2 h3
  rcases hb with⟨h5,h6⟩ | h5
  ·exact h1 (hr.inj r r0 e e0 b h2 h0 h3 (.inl ⟨h6,h5.symm⟩))
  ·have:=hr.blt h2 h3;omega
 have cn:∀(r:Nat)(e:U),r≠r0→bH (E.set r0 b v') r e→bH E r e:=fun r e h1 h2=>⟨h2.1,fun q=>h2.2 (by rw[Env.tP E b v' h1];exact q)⟩
 have hblk:∀(r:Nat)(e:U)(c:Nat),r≠r0→aE (E.set r0 b v') r e c→aE E r e c:=fun r e c h1 h2=>by
  rcases h2 with⟨h2,h3⟩ | h2
  ·exact .inl ⟨cn r e h1 h2,by rwa [Env.wy E b v' h1] at h3⟩
  ·exact .inr h2
 have tS:∀c,aE (E.set r0 b v') r0 ⟨v',bd'⟩ c→c=b:=fun c h=>by
  rcases h with⟨_,h3⟩ | ⟨h2,_⟩
  ·rw[Env.ke] at h3;exact h3.symm
  ·rw[hP] at h2;cases h2
 refine⟨X,⟨?_,?_,?_,?_,?_,?_,?_,hr.gl.ext X,?_⟩,os,tape,output,size,fun _ _ h=> .inl h,gr,?_,?_⟩
 ·intro r e h
  rcases aL r e h with⟨rfl,rfl⟩ | ⟨h1,h2⟩
  ·rw[Env.jE]
  ·rw[Env.wz E b v' h1];exact hr.ver r e h2
 ·intro r e h hl
  rcases aL r e h with⟨rfl,rfl⟩ | ⟨h1,h2⟩
  ·rw[Env.ke];exact bM X
  ·rw[Env.wy E b v' h1]
   have hl:=cn r e h1 hl
   exact(hr.bM r e h2 hl).ext X (aO _ (hr.lt h2 hl) (fun q=>aF r e h1 h2 (q▸aE.of hl)))
 ·intro r e h ha
  rcases aL r e h with⟨rfl,rfl⟩ | ⟨h1,h2⟩
  ·exact absurd ha (Env.np E r b v')
  ·rw[Env.tP E b v' h1] at ha;exact hr.abs r e h2 ha
 ·intro r r' e e' c h h' hl bu
  rcases aL r e h with⟨rfl,rfl⟩ | ⟨h1,h2⟩<;>rcases aL r' e' h' with⟨rfl,rfl⟩ | ⟨h3,h4⟩
  ·rfl
  ·have:=tS c hl;subst this;exact absurd (hblk r' e' _ h3 bu) (aF r' e' h3 h4)
  ·have:=tS c bu;subst this;exact absurd (hblk r e _ h1 hl) (aF r e h1 h2)
  ·exact hr.inj r r' e e' c h2 h4 (hblk r e c h1 hl) (hblk r' e' c h3 bu)
 ·exact fun z c h=>Nat.lt_of_lt_of_le (hr.cJ z c h) size
 ·intro r e c h hl z hz
  rcases aL r e h with⟨rfl,rfl⟩ | ⟨h1,h2⟩
  ·exact AS z c hz (tS c hl)
  ·exact hr.dj r e c h2 (hblk r e c h1 hl) z hz
 ·intro r h
  simp only[aK,bI,List.length_set] at h
  have aF:r≠r0:=by omega
  rw[Env.wz E b v' aF,Env.tP E b v' aF]
  exact hr.top r h
 ·intro r v ls h
  rcases aL r _ h with⟨rfl,h1⟩ | ⟨h1,h2⟩
  ·cases h1;cases hP
  ·exact(hr.aB r v ls h2).lx fun i c hc=>aO c ((hr.aB r v ls h2).lt hc) (fun q=>aF r _ h1 h2 (q▸.inr ⟨rfl,i,hc⟩))
 ·intro k hk h
  by_cases dM:k=b
  ·exfalso
   rcases hb with⟨h1,h2⟩ | h1
   ·exact h r0 e0 h0 (.inl ⟨h2,by omega⟩) (by simp)
   ·omega
  ·exact aO k hk dM
 ·intro r e c h hl
  rcases aL r e h with⟨rfl,rfl⟩ | ⟨h1,h2⟩
  ·have:=tS c hl
   subst this
   rcases hb with⟨h1,h2⟩ | h1
   ·exact .inr ⟨r,e0,h0,.inl ⟨h2,h1.symm⟩,.inl rfl⟩
   ·exact .inl h1
  ·exact .inr ⟨r,e,h2,hblk r e c h1 hl,.inl rfl⟩
end Go.Proofs.YtpbpiehcchannaaGreatDoor

/-! Abstract values: each operation that reads or writes memory: what it makes of them, and that this is so. Conditions: what 'TIok' says of the types. -/
namespace Go.Proofs.YtpbpiehcchannaaGreatDoor
set_option linter.unusedVariables false
set_option linter.unusedSimpArgs false
def aQ:Op→List Operand
 | .move x | .assign x | .box _ x | .load _ x | .nilCheck x | .unOp _ _ x | .convert _ _ x | .sliceToArrayPointer _ x | .fieldAddr _ x _ | .field _ x _ | .extract x _=>[x]
 | .pick c a b=>[c,a,b]
 | .build _ ps | .buildSlice _ _ ps=>ps.toList.map (·.2)
 | .store _ a v | .binOp _ _ a v _ | .makeSlice _ a v | .indexAddr _ a v | .index _ a v=>[a,v]
 | .makeFunc _ first captured=>captured.toList
 | .slice _ x l h m=>x::(l.toList++(h.toList++m.toList))
 | .call c=>(match c.callee with | .value f=>[f] | _=>[])++c.args.toList
 | _=>[]
def wA(P:Program)(o:Oper)(ao:Operand→Value)(w:World)(cv:Value)(w':World):Prop:=
 (execOp ao o).run P w= .ok (.value cv) w'∨((execOp ao o).run P w= .ok .skip w'∧cv=undef)
def aW(P:Program)(o:Oper)(ev:Operand→AV)(hg:Nat→Option U)(Φ:Prop)(v:AV)(us:List (Nat×U)):Prop:=
 Φ→∀(E:Env)(H:List U)(w:World)(ao:Operand→Value),HR E w H→(∀(r:Nat)(e:U),hg r=some e→H[r]? =some e)→(∀x∈aQ o.op,ah E w (ev x) (ao x))→
  ∃cv w' E',wA P o ao w cv w'∧ah E' w' v cv∧Out E E' w w' H us
section
variable {P:Program} {o:Oper} {ev:Operand→AV} {hg:Nat→Option U}
theorem aW.pure {Φ : Prop} {v : AV} (h : Φ → ∀ (E : Env) (H : List U) (w : World) (ao : Operand → Value), HR E w H → (∀ (r : Nat) (e : U), hg r = some e → H[r]? = some e) → (∀ x ∈ aQ o.op, ah E w (ev x) (ao x)) →
    ∃cv,(execOp ao o).run P w= .ok (.value cv) w∧ah E w v cv):aW P o ev hg Φ v []:=
 fun p E H w ao hr hh hx=>let⟨cv,h1,h2⟩:=h p E H w ao hr hh hx;⟨cv,w,E,.inl h1,h2,Out.same hr⟩

theorem aY{E:Env}{w:World}{u v:Value}(h:ah E w (.val u) v):v=u:=by rwa [ah] at h
theorem HR.cells {E : Env} {w : World} {H : List U} (hr : HR E w H) {r : Nat} {e : U} (h : H[r]? = some e) {i : Nat} {ys : List AV} (hy : e.bd.at i = some ys) :
    ∃cs,cs.length=e.bd.sz∧aw E w ys cs∧∀j u,cs[j]? =some u→w.cell? ⟨E.ρ r,i*e.bd.sz+j,none⟩=some u:=by
 have hc:e.bd.iu=true:=by cases hb:e.bd<;>simp[Bd.iu]<;>simp[hb,Bd.at] at hy
 have hl:=Bd.pN hc
 have bo:¬E.abs r:=fun q=>by have:=hr.abs r e h q;have:=Bd.mf hy;omega
 obtain⟨cur,T,lo,hi,h1,h2,h3,h4⟩:=(hr.bM r e h ⟨hl,bo⟩).aO hc
 obtain⟨cs,h5,h6,h7⟩:=h4 i ys hy
 exact⟨cs,h5,h6,fun j u hu=>by rw[cell_of_row w _ _ cur T (lo,hi) h1];exact h7 j u hu⟩

theorem HR.tT {E : Env} {w : World} {H : List U} (hr : HR E w H) {r v0 : Nat} {ls : List (List UInt8)} (he : H[r]? = some ⟨v0, .aB ls⟩) {ver i off n : Nat} {l : List UInt8} (hl : ls[i]? = some l) (hle : off + n ≤ l.length) (gh : ver = v0) {v : Value} (hv : ah E w (.pl r ver i off n) v) :
    ∃a c,v= .slice a n c∧n≤c∧c≤maxLen∧(a=none→c=0)∧∀(j:Nat)(x:UInt8),((l.drop off).take n)[j]? =some x→∃b,E.pl r i=some b∧a=some ⟨b,off,none⟩∧w.cell? ⟨b,off+j,none⟩=some (bv x):=by
 rw[ah] at hv
 obtain⟨a,c,h1,h2,h3,h4,h5⟩:=hv.2 (gh.trans (hr.ver r _ he).symm)
 refine⟨a,c,h1,h2,h3,h4,fun j x hx=> ?_⟩
 rw[List.getElem?_take] at hx
 split at hx
 rotate_left
 ·cases hx
 rename_i hj
 obtain⟨b,h6,h7,_⟩:=h5.resolve_left (by omega)
 obtain⟨cur,T,lo,hi,g1,_,_,g4⟩:=(hr.aB r v0 ls he).aO i l b hl h6
 refine⟨b,h6,h7,?_⟩
 rw[cell_of_row w _ _ cur T (lo,hi) g1]
 rw[List.getElem?_drop] at hx
 exact g4 _ x hx

/-! what a variable of a type holds, out of its cells -/
def nq(ti:TI)(cs:List AV)(K:Prop→AV→Prop):Prop:=
 match ti.u with
 | .other=>False
 | .struct _=>K (ti.sz≤cs.length) (.agg (fZ cs ti.sz))
 | .array _ _=>K (ti.sz≤cs.length) (.agg (fZ cs ti.sz))
 | _=>match cs with
  | x::_=>K True x
  | []=>False
theorem aU.sizeOf{T:TypeId}{ti:TI}(h:aU P T ti)(w:World):(sizeOf T).run P w= .ok ti.sz w:=by
 obtain⟨z,hz,_⟩:=h.info
 obtain⟨i,hi,h1,h2,h3⟩:=info_parts hz
 simp[Go.sizeOf,typeInfo,hi,h2]
theorem aU.Gy{T:TypeId}{ti:TI}(h:aU P T ti)(hu:ti.u.isAgg=true):pS P T ti.sz:=by
 obtain⟨z,hz,_⟩:=h.info
 obtain⟨i,hi,h1,h2,h3⟩:=info_parts hz
 have hk:=h.u
 refine⟨?_,by rw[hi];simp[h2]⟩
 cases hq:ti.u<;>simp[hq,UK.isAgg] at hu<;>rw[hq] at hk<;>simp only[UK.ok] at hk
 ·rw[hk]
 ·obtain⟨f,hf,_⟩:=hk;rw[hf]
theorem aU.AT{T:TypeId}{ti:TI}(h:aU P T ti)(hu:ti.u.isAgg=false)(ho:ti.u≠.other)(w:World):(isAgg T).run P w= .ok false w:=by
 have hk:=h.u
 unfold Go.isAgg
 cases hq:ti.u<;>rw[hq] at hk hu ho<;>simp only[UK.ok] at hk<;>simp[UK.isAgg] at hu ho
 case func=>obtain⟨a,b,c,hk⟩:=hk;rw[Sem.run_bind,run_underlying hk w];rfl
 all_goals (rw[Sem.run_bind,run_underlying hk w];rfl)
theorem rH{E:Env}{w:World}:∀(n:Nat){xs:List AV}{vs:List Value},aw E w xs vs→aw E w (xs.drop n) (vs.drop n)
 | 0,_,_,h=>h
 | n+1,[],vs,h=>by rw[aw] at h;subst h;simp[aw]
 | n+1,x::xs,vs,h=>by
  rw[aw] at h
  obtain⟨v,cQ,rfl,h1,h2⟩:=h
  simpa using rH n h2
theorem wB{E:Env}{w:World}:∀(n:Nat){xs:List AV}{vs:List Value},aw E w xs vs→aw E w (xs.take n) (vs.take n)
 | 0,_,_,h=>by simp[aw]
 | n+1,[],vs,h=>by rw[aw] at h;subst h;simp[aw]
 | n+1,x::xs,vs,h=>by
  rw[aw] at h
  obtain⟨v,cQ,rfl,h1,h2⟩:=h
  simp only[List.take_succ_cons]
  rw[aw]
  exact⟨v,_,rfl,h1,wB n h2⟩
theorem pT {T : TypeId} {ti : TI} {cells : List AV} {j : Nat} {K : Prop → AV → Prop} (ht : aU P T ti) (h : nq ti (fj cells j) K) :
    ∃Φ v,K Φ v∧(Φ→∀(E:Env)(w:World)(cs:List Value),aw E w cells cs→∃cv,ah E w v cv∧(part T cs.toArray j).run P w= .ok cv w∧
     ∀(b o:Nat),(∀j u,cs[j]? =some u→w.cell? ⟨b,o+j,none⟩=some u)→(loadVar T ⟨b,o+j,none⟩).run P w= .ok cv w):=by
 rw[pP] at h
 have key:(∃Φ v,K Φ v∧(Φ→ti.u.isAgg=true∧ti.sz≤(cells.drop j).length∧v= .agg (fZ (cells.drop j) ti.sz)∨ti.u.isAgg=false∧ti.u≠.other∧(cells.drop j).head? =some v)):=by
  unfold nq at h
  split at h
  ·exact h.elim
  ·rename_i hu;exact⟨_,_,h,fun p=> .inl ⟨by rw[hu];rfl,p,rfl⟩⟩
  ·rename_i hu;exact⟨_,_,h,fun p=> .inl ⟨by rw[hu];rfl,p,rfl⟩⟩
  ·rename_i h1 h2 h3
   split at h
   ·rename_i x xs hx
    refine⟨_,_,h,fun _=> .inr ⟨?_,h1,by rw[hx];rfl⟩⟩
    cases hq:ti.u<;>simp_all [UK.isAgg]
   ·exact h.elim
 obtain⟨Φ,v,hK,hv⟩:=key
 refine⟨Φ,v,hK,fun p E w cs hc=> ?_⟩
 rcases hv p with⟨h1,h2,rfl⟩ | ⟨h1,h2,h3⟩
 ·have A:=ht.Gy h1
  have hd:=wB ti.sz (rH j hc)
  have hlen:=(eR (rH j hc)).1
  have hl:((cs.drop j).take ti.sz).length=ti.sz:=by rw[List.length_take];omega
  rw[pQ]
  refine⟨.agg ((cs.drop j).take ti.sz).toArray,by rw[ah];exact⟨_,rfl,hd⟩,?_,fun b o cW=>Gz A hl (fun k u hu=> ?_)⟩
  rotate_left
  ·rw[Addr.add_lit]
   rw[List.getElem?_take] at hu
   split at hu
   ·rw[List.getElem?_drop] at hu
    rw[Nat.add_assoc]
    exact cW _ u hu
   ·cases hu
  ·unfold part
   have e:cs.toArray.extract j (j+ti.sz)=((cs.drop j).take ti.sz).toArray:=by
    apply Array.ext';simp
   simp only[Sem.run_bind,A.isAgg,A.sizeOf,Result.andThen_ok,if_true,Sem.run_pure,e]
 ·obtain⟨u,hu,hr⟩:=(eR (rH j hc)).2 0 v (by rw[←List.head?_eq_getElem?];exact h3)
  rw[List.getElem?_drop,Nat.add_zero] at hu
  refine⟨u,hr,?_,fun b o cW=> ?_⟩
  ·unfold part
   simp[Sem.run_bind,ht.AT h1 h2,hu]
  ·unfold loadVar
   simp[Sem.run_bind,ht.AT h1 h2,cW j u hu]

/-! load -/
def tU(bd:Bd)(sz i:Nat)(K:Prop→List AV→Prop):Prop:=match bd with
 | .dead=>False
 | .bytes l=>K (sz=1∧i<l.length) [.val (.int .u8 (l.getD i 0).toNat)]
 | .row sz' f d l=>K (sz=sz'∧i<l.length) (f (l.getD i d))
 | .obj l=>K (i=0) l
 | .lp .. =>False
 | .aB _=>False
theorem AU{bd:Bd}{sz i:Nat}{K:Prop→List AV→Prop}(h:tU bd sz i K):∃Φ ys,K Φ ys∧(Φ→bd.at i=some ys∧i*sz=i*bd.sz):=by
 cases bd<;>simp only[tU] at h
 ·refine⟨_,_,h,fun p=>⟨?_,by rw[p.1];rfl⟩⟩
  simp[Bd.at,p.2,bv,List.getD]
 ·refine⟨_,_,h,fun p=>⟨?_,by rw[p.1];rfl⟩⟩
  simp[Bd.at,p.2,List.getD]
 ·exact⟨_,_,h,fun p=>⟨by simp[Bd.at,p],by simp[p]⟩⟩
def wC(tb:TypeId→Option TI)(hg:Nat→Option U)(T:TypeId)(x:AV)(K:KF):Prop:=
 match tb T with
 | none=>False
 | some ti=>match x with
  | .ref r ver sz i j=>match hg r with
   | none=>False
   | some e=>tU e.bd sz i fun Φ cells=>nq ti (fj cells j) fun Ψ v=>K (ver=e.ver∧Φ∧Ψ) v []
  | .cp _ cells j=>nq ti (fj cells j) fun Ψ v=>K Ψ v []
  | .gU r ver i k=>match hg r with
   | none=>False
   | some e=>match e.bd with
    | .aB ls=>nq ti [.val (.int .u8 ((ls.getD i []).getD k 0).toNat)] fun Ψ v=>K (ver=e.ver∧i<ls.length∧k< (ls.getD i []).length∧Ψ) v []
    | _=>False
  | _=>False
theorem GA{tb:TypeId→Option TI}(aA:cj P tb){T:TypeId}{x:Operand}(ho:o.op= .load T x){K:KF}(h:wC tb hg T (ev x) K):∃Φ v us,K Φ v us∧aW P o ev hg Φ v us:=by
 unfold wC at h
 split at h
 ·exact h.elim
 rename_i ti bF
 have ht:=aA T ti bF
 split at h
 ·rename_i r ver sz i j hx
  split at h
  ·exact h.elim
  rename_i e he
  obtain⟨Φ,ys,h,hb⟩:=AU h
  obtain⟨Ψ,v,h,hl⟩:=pT ht h
  refine⟨_,v,[],h,aW.pure fun p E H w ao hr hh ay=> ?_⟩
  obtain⟨p1,p2,p3⟩:=p
  have hv:=ay x (by rw[ho];simp[aQ])
  rw[hx,ah] at hv
  have hH:=hh r e he
  have cZ:=hv.2 (p1.trans (hr.ver r e hH).symm)
  obtain⟨eo,jF⟩:=hb p2
  obtain⟨cs,h5,h6,h7⟩:=hr.cells hH eo
  obtain⟨cv,eG,_,dz⟩:=hl p3 E w cs h6
  have dz:=dz (E.ρ r) (i*e.bd.sz) h7
  refine⟨cv,?_,eG⟩
  rw[jF] at cZ
  exact wE ho cZ dz
 ·rename_i z cells j hx
  obtain⟨Ψ,v,h,hl⟩:=pT ht h
  refine⟨_,v,[],h,aW.pure fun p E H w ao hr hh ay=> ?_⟩
  have hv:=ay x (by rw[ho];simp[aQ])
  rw[hx,ah] at hv
  obtain⟨b,o',cs,cZ,_,h6,h7⟩:=hv
  obtain⟨cv,eG,_,dz⟩:=hl p E w cs h6
  have dz:=dz b o' h7
  exact⟨cv,wE ho cZ dz,eG⟩
 ·rename_i r ver i k hx
  split at h
  ·exact h.elim
  rename_i e he
  split at h
  rotate_left
  ·exact h.elim
  rename_i ls hb
  obtain⟨Ψ,v,h,hl⟩:=pT (cells:=[.val (.int .u8 ((ls.getD i []).getD k 0).toNat)]) (j:=0) ht h
  refine⟨_,v,[],h,aW.pure fun p E H w ao hr hh ay=> ?_⟩
  obtain⟨p1,p2,p3,p4⟩:=p
  have hv:=ay x (by rw[ho];simp[aQ])
  rw[hx,ah] at hv
  have hH:=hh r e he
  obtain⟨b,h1,cZ⟩:=hv.2 (p1.trans (hr.ver r e hH).symm)
  have eS:H[r]? =some ⟨e.ver,.aB ls⟩:=by rw[hH,←hb]
  have fJ:ls[i]? =some (ls.getD i []):=by simp[List.getD,p2]
  obtain⟨cur,T0,lo,hi,g1,_,_,g4⟩:=(hr.aB r _ ls eS).aO i _ b fJ h1
  have g5:=g4 k ((ls.getD i []).getD k 0) (by simp only[List.getD_eq_getElem?_getD];rw[List.getElem?_eq_getElem (by simpa [List.getD_eq_getElem?_getD] using p3)];simp)
  obtain⟨cv,eG,_,dz⟩:=hl p4 E w [bv ((ls.getD i []).getD k 0)] (by simp only[aw,ah];exact⟨_,_,rfl,rfl,rfl⟩)
  have dz:=dz b k (fun j u hu=>by
   cases j with
   | zero=>simp at hu;subst hu;rw[cell_of_row w _ _ cur T0 (lo,hi) g1];exact g5
   | succ j=>simp at hu)
  exact⟨cv,wE ho cZ dz,eG⟩
 ·exact h.elim

/-! nilCheck, addresses -/
def gG(hg:Nat→Option U)(r ver:Nat)(K:Prop→Prop):Prop:=match hg r with
 | none=>False
 | some e=>K (ver=e.ver)
theorem iK{r ver:Nat}{K:Prop→Prop}(h:gG hg r ver K):∃Φ,K Φ∧(Φ→∀(E:Env)(H:List U)(w:World),HR E w H→(∀(r:Nat)(e:U),hg r=some e→H[r]? =some e)→ver=E.ver r):=by
 unfold gG at h
 split at h
 ·exact h.elim
 ·rename_i e he
  exact⟨_,h,fun p E H w hr hh=>p.trans (hr.ver r e (hh r e he)).symm⟩
def wF(hg:Nat→Option U)(x:AV)(K:KF):Prop:=match x with
 | .ref r ver sz i j=>gG hg r ver fun Φ=>K Φ (.ref r ver sz i j) []
 | .cp z cells j=>K True (.cp z cells j) []
 | .clo f caps=>K True (.clo f caps) []
 | .val (.pointer none)=>K False .any []
 | _=>False
theorem GB{x:Operand}(ho:o.op= .nilCheck x){K:KF}(h:wF hg (ev x) K):∃Φ v us,K Φ v us∧aW P o ev hg Φ v us:=by
 unfold wF at h
 split at h
 ·rename_i r ver sz i j hx
  obtain⟨Φ,h,hc⟩:=iK h
  refine⟨Φ,_,[],h,aW.pure fun p E H w ao hr hh ay=> ?_⟩
  have hv:=ay x (by rw[ho];simp[aQ])
  rw[hx] at hv
  refine⟨ao x,?_,hv⟩
  rw[ah] at hv
  have cZ:=hv.2 (hc p E H w hr hh)
  unfold execOp;simp only[ho,cZ,Sem.run_pure]
 ·rename_i z cells j hx
  refine⟨_,_,[],h,aW.pure fun p E H w ao hr hh ay=> ?_⟩
  have hv:=ay x (by rw[ho];simp[aQ])
  rw[hx] at hv
  refine⟨ao x,?_,hv⟩
  rw[ah] at hv
  obtain⟨b,o',cs,cZ,_⟩:=hv
  unfold execOp;simp only[ho,cZ,Sem.run_pure]
 ·rename_i f caps hx
  refine⟨_,_,[],h,aW.pure fun p E H w ao hr hh ay=> ?_⟩
  have hv:=ay x (by rw[ho];simp[aQ])
  rw[hx] at hv
  refine⟨ao x,?_,hv⟩
  rw[ah] at hv
  obtain⟨cs,cZ,_⟩:=hv
  unfold execOp;simp only[ho,cZ,Sem.run_pure]
 ·exact⟨_,_,_,h,fun p=>p.elim⟩
 ·exact h.elim
def tV(tb:TypeId→Option TI)(T k:Nat)(K:Nat→TI→TypeId→Prop):Prop:=match tb T with
 | some ti=>match ti.u with
  | .struct fs=>match fs[k]? with
   | some (off,ft)=>match tb ft with
    | some fi=>K off fi ft
    | none=>False
   | none=>False
  | _=>False
 | none=>False
theorem AW {tb : TypeId → Option TI} (aA : cj P tb) {T k : Nat} {K : Nat → TI → TypeId → Prop} (h : tV tb T k K) :
    ∃off fi jr f,K off fi f.type∧P.underlying T=some (.struct jr)∧jr[k]? =some f∧f.offset=off∧aU P f.type fi:=by
 unfold tV at h
 repeat (split at h;rotate_left;(try exact h.elim))
 all_goals (try exact h.elim)
 rename_i ti bF _ fs GC _ off ft hk _ fi om
 have ht:=(aA T ti bF).u
 rw[GC] at ht
 obtain⟨jr,h1,h2⟩:=ht
 rw[←h2,List.getElem?_map] at hk
 obtain⟨f,hf,he⟩:=Option.map_eq_some_iff.1 hk
 cases he
 exact⟨_,fi,jr,f,h,h1,by simpa using hf,rfl,aA _ _ om⟩
def AY(tb:TypeId→Option TI)(hg:Nat→Option U)(T:TypeId)(x:AV)(k:Nat)(K:KF):Prop:=
 tV tb T k fun off fi _=>match x with
  | .ref r ver sz i j=>gG hg r ver fun Φ=>K (Φ∧fi.sz≠0) (.ref r ver sz i (j+off)) []
  | .cp z cells j=>K (fi.sz≠0) (.cp z cells (j+off)) []
  | _=>False
theorem GD{tb:TypeId→Option TI}(aA:cj P tb){T:TypeId}{x:Operand}{k:Nat}(ho:o.op= .fieldAddr T x k){K:KF}(h:AY tb hg T (ev x) k K):∃Φ v us,K Φ v us∧aW P o ev hg Φ v us:=by
 obtain⟨off,fi,jr,f,h,hu,hf,wG,om⟩:=AW aA h
 have bt:∀(w:World)(ao:Operand→Value)(b o':Nat),fi.sz≠0→ao x= .pointer (some ⟨b,o',none⟩)→(execOp ao o).run P w= .ok (.value (.pointer (some ⟨b,o'+off,none⟩))) w:=by
  intro w ao b o' hz hx
  unfold execOp
  simp only[ho,hx]
  unfold Instr.fieldAt fieldPlace
  simp[Sem.run_bind,run_underlying hu,hf,Instr.sureAddr,om.sizeOf,hz,wG,Addr.add_lit]
 split at h
 ·rename_i r ver sz i j hx
  obtain⟨Φ,h,hc⟩:=iK h
  refine⟨_,_,[],h,aW.pure fun p E H w ao hr hh ay=> ?_⟩
  have hv:=ay x (by rw[ho];simp[aQ])
  rw[hx,ah] at hv
  have cZ:=hv.2 (hc p.1 E H w hr hh)
  refine⟨_,bt w ao _ _ p.2 cZ,?_⟩
  rw[ah]
  exact⟨hv.1,fun _=>by rw[Nat.add_assoc]⟩
 ·rename_i z cells j hx
  refine⟨_,_,[],h,aW.pure fun p E H w ao hr hh ay=> ?_⟩
  have hv:=ay x (by rw[ho];simp[aQ])
  rw[hx,ah] at hv
  obtain⟨b,o',cs,cZ,h1,h2,h3⟩:=hv
  refine⟨_,bt w ao _ _ p cZ,?_⟩
  rw[ah]
  exact⟨b,o',cs,by rw[Nat.add_assoc],h1,h2,h3⟩
 ·exact h.elim
end
end Go.Proofs.YtpbpiehcchannaaGreatDoor

/-! Abstract values: index, slice, len, numbers, parts. Conditions: what 'TIok' says of the types. -/
namespace Go.Proofs.YtpbpiehcchannaaGreatDoor
set_option linter.unusedVariables false
set_option linter.unusedSimpArgs false
section
variable {P:Program} {o:Oper} {ev:Operand→AV} {hg:Nat→Option U}
/-! index -/
def pU(tb:TypeId→Option TI)(E:TypeId)(K:Nat→Prop):Prop:=match tb E with
 | some ti=>K ti.sz
 | none=>False
theorem tW{tb:TypeId→Option TI}(aA:cj P tb){E:TypeId}{K:Nat→Prop}(h:pU tb E K):∃ti,K ti.sz∧aU P E ti:=by
 unfold pU at h
 split at h
 ·rename_i ti bF;exact⟨ti,h,aA _ _ bF⟩
 ·exact h.elim
def cK(k:IntKind):Int→List AV:=fun n=>[.val (.int k n)]
def mj(k:IntKind):List AV→Option (List Int)
 | []=>some []
 | .val (.int k' n)::l=>if k'=k then match mj k l with
     | some ns=>some (n::ns)
     | none=>none
  else none
 | _::_=>none
theorem pV{k:IntKind}:∀{l:List AV}{ns:List Int},mj k l=some ns→l=ns.map fun n=> .val (.int k n)
 | [],ns,h=>by simp[mj] at h;subst h;rfl
 | x::l,ns,h=>by
  unfold mj at h
  split at h
  ·cases h;rename_i h1;cases h1
  ·rename_i k' n l' h1
   cases h1
   split at h
   ·rename_i hk
    split at h
    ·rename_i PM js
     cases h
     rw[pV js,hk];rfl
    ·cases h
   ·cases h
  ·cases h
def wH:List AV→Option (IntKind×List Int)
 | .val (.int k n)::l=>match mj k (.val (.int k n)::l) with
  | some ns=>some (k,ns)
  | none=>none
 | _=>none
theorem AZ{k:IntKind}{l:List AV}{ns:List Int}(h:wH l=some (k,ns)):l=ns.map fun n=> .val (.int k n):=by
 unfold wH at h
 split at h
 ·split at h
  ·rename_i js
   cases h
   exact pV js
  ·cases h
 ·cases h
def wI(tb:TypeId→Option TI)(hg:Nat→Option U)(T:TypeId)(x y:AV)(K:KF):Prop:=
 match tb T with
 | none=>False
 | some ti=>match y with
  | .val (.int k n)=>match ti.u with
   | .slice E=>pU tb E fun s=>match x with
    | .own r ver sz off m=>gG hg r ver fun Φ=>K (Φ∧sz=s∧0≤n∧n<m) (.ref r ver sz (off+n.toNat) 0) []
    | .bs z l=>K (s=1∧0≤n∧n<l.length) (.cp z [.val (.int .u8 (l.getD n.toNat 0).toNat)] 0) []
    | .sl z sz f d l=>K (sz=s∧0≤n∧n<l.length) (.cp z (f (l.getD n.toNat d)) 0) []
    | .pl r ver i off m=>gG hg r ver fun Φ=>K (Φ∧s=1∧0≤n∧n<m) (.gU r ver i (off+n.toNat)) []
    | _=>False
   | .array m E=>pU tb E fun s=>match x with
    | .ref r ver sz i j=>gG hg r ver fun Φ=>K (Φ∧0≤n∧n<m) (.ref r ver sz i (j+n.toNat*s)) []
    | .cp z cells j=>match wH cells with
     | some (kk,ns)=>K (0≤n∧n<m∧s=1∧j=0∧m≤ns.length) (.cp z [.val (.int kk (ns.getD n.toNat 0))] 0) []
     | none=>K (0≤n∧n<m) (.cp z cells (j+n.toNat*s)) []
    | _=>False
   | _=>False
  | _=>False
theorem run_indexAt_slice {T E : TypeId} {ti : TI} (hT : P.underlying T = some (.slice E)) (hE : aU P E ti) {k : IntKind} {n : Int} {m c b o' : Nat} (h0 : 0 ≤ n) (h1 : n < m) (w : World) :
    (Instr.indexAt T (.slice (some ⟨b,o',none⟩) m c) (.int k n)).run P w= .ok (.pointer (some ⟨b,o'+n.toNat*ti.sz,none⟩)) w:=by
 unfold Instr.indexAt
 simp[Sem.run_bind,asIntOf,run_underlying hT,h0,h1,hE.sizeOf,Addr.add_lit]
theorem run_indexAt_array {T E : TypeId} {ti : TI} {m : Nat} (hT : P.underlying T = some (.array m E)) (hE : aU P E ti) {k : IntKind} {n : Int} {b o' : Nat} (h0 : 0 ≤ n) (h1 : n < m) (w : World) :
    (Instr.indexAt T (.pointer (some ⟨b,o',none⟩)) (.int k n)).run P w= .ok (.pointer (some ⟨b,o'+n.toNat*ti.sz,none⟩)) w:=by
 unfold Instr.indexAt
 simp[Sem.run_bind,asIntOf,run_underlying hT,h0,h1,hE.sizeOf,Addr.add_lit,Instr.sureAddr]
theorem GF{tb:TypeId→Option TI}(aA:cj P tb){T:TypeId}{x y:Operand}(ho:o.op= .indexAddr T x y){K:KF}(h:wI tb hg T (ev x) (ev y) K):∃Φ v us,K Φ v us∧aW P o ev hg Φ v us:=by
 unfold wI at h
 split at h
 ·exact h.elim
 rename_i ti bF
 have hT:=(aA T ti bF).u
 split at h
 rotate_left
 ·exact h.elim
 rename_i k n hy
 have gV:∀{E:Env}{w:World}{ao:Operand→Value},(∀x∈aQ o.op,ah E w (ev x) (ao x))→ah E w (ev x) (ao x)∧ao y= .int k n:=by
  intro E w ao ay
  refine⟨ay x (by rw[ho];simp[aQ]),?_⟩
  have:=ay y (by rw[ho];simp[aQ])
  rw[hy] at this
  exact aY this
 have hex:∀{w:World}{ao:Operand→Value}{v:Value},(Instr.indexAt T (ao x) (ao y)).run P w= .ok v w→(execOp ao o).run P w= .ok (.value v) w:=by
  intro w ao v hr
  unfold execOp
  simp only[ho,Sem.run_bind,hr,Result.andThen_ok,Sem.run_pure]
 split at h
 ·rename_i E hu
  rw[hu] at hT
  obtain⟨ei,h,hE⟩:=tW aA h
  split at h
  ·rename_i r ver sz off m hx
   obtain⟨Φ,h,hc⟩:=iK h
   refine⟨_,_,[],h,aW.pure fun p E' H w ao hr hh ay=> ?_⟩
   obtain⟨p1,p2,p3,p4⟩:=p
   obtain⟨hv,hn⟩:=gV ay
   rw[hx,ah] at hv
   obtain⟨a,c,dn,h1,h2,jG,h3⟩:=hv.2 (hc p1 E' H w hr hh)
   have gH:c≠0:=by omega
   obtain⟨_,rfl,_⟩:=h3.resolve_left gH
   have bt:=run_indexAt_slice (k:=k) (c:=c) (b:=E'.ρ r) (o':=off*sz) (m:=m) hT hE p3 p4 w
   refine⟨_,hex (by rw[dn,hn];exact bt),?_⟩
   rw[ah]
   refine⟨hv.1,fun _=> ?_⟩
   rw[p2,Nat.add_mul,Nat.add_zero]
  ·rename_i z l hx
   refine⟨_,_,[],h,aW.pure fun p E' H w ao hr hh ay=> ?_⟩
   obtain⟨p1,p2,p3⟩:=p
   obtain⟨hv,hn⟩:=gV ay
   rw[hx,ah] at hv
   obtain⟨a,m,c,dn,rfl,h1,h2,h3,h4⟩:=hv
   have ai:n.toNat<l.length:=by omega
   obtain⟨b,o',rfl,hz,cW⟩:=h4 n.toNat l[n.toNat] (List.getElem?_eq_getElem ai)
   have bt:=run_indexAt_slice (k:=k) (c:=c) (b:=b) (o':=o') (m:=l.length) hT hE p2 p3 w
   refine⟨_,hex (by rw[dn,hn];exact bt),?_⟩
   rw[ah]
   refine⟨b,o'+n.toNat,[bv l[n.toNat]],by rw[p1];simp,hz,?_,?_⟩
   ·simp only[aw,ah]
    exact⟨_,_,rfl,by simp[bv,List.getD,ai],rfl⟩
   ·intro j u hu
    cases j with
    | zero=>simp at hu;subst hu;exact cW
    | succ j=>simp at hu
  ·rename_i z sz α f d l hx
   refine⟨_,_,[],h,aW.pure fun p E' H w ao hr hh ay=> ?_⟩
   obtain⟨p1,p2,p3⟩:=p
   obtain⟨hv,hn⟩:=gV ay
   rw[hx,ah] at hv
   obtain⟨a,m,c,dn,rfl,h1,h2,h3,h4⟩:=hv
   have ai:n.toNat<l.length:=by omega
   obtain⟨b,o',cs,rfl,hz,fK,cq,cW⟩:=h4 n.toNat l[n.toNat] (List.getElem?_eq_getElem ai)
   have bt:=run_indexAt_slice (k:=k) (c:=c) (b:=b) (o':=o') (m:=l.length) hT hE p2 p3 w
   refine⟨_,hex (by rw[dn,hn];exact bt),?_⟩
   rw[ah]
   refine⟨b,o'+n.toNat*sz,cs,by rw[p1];simp,hz,?_,cW⟩
   simpa [List.getD,ai] using cq
  ·rename_i r ver i off m hx
   obtain⟨Φ,h,hc⟩:=iK h
   refine⟨_,_,[],h,aW.pure fun p E' H w ao hr hh ay=> ?_⟩
   obtain⟨p1,p2,p3,p4⟩:=p
   obtain⟨hv,hn⟩:=gV ay
   rw[hx,ah] at hv
   obtain⟨a,c,dn,h1,h2,jG,h3⟩:=hv.2 (hc p1 E' H w hr hh)
   obtain⟨b,hb,rfl,_⟩:=h3.resolve_left (by omega)
   have bt:=run_indexAt_slice (k:=k) (c:=c) (b:=b) (o':=off) (m:=m) hT hE p3 p4 w
   refine⟨_,hex (by rw[dn,hn];exact bt),?_⟩
   rw[ah]
   refine⟨hv.1,fun _=>⟨b,hb,?_⟩⟩
   rw[p2,Nat.mul_one]
  ·exact h.elim
 ·rename_i m E hu
  rw[hu] at hT
  obtain⟨ei,h,hE⟩:=tW aA h
  split at h
  ·rename_i r ver sz i j hx
   obtain⟨Φ,h,hc⟩:=iK h
   refine⟨_,_,[],h,aW.pure fun p E' H w ao hr hh ay=> ?_⟩
   obtain⟨p1,p3,p4⟩:=p
   obtain⟨hv,hn⟩:=gV ay
   rw[hx,ah] at hv
   have cZ:=hv.2 (hc p1 E' H w hr hh)
   have bt:=run_indexAt_array (k:=k) (b:=E'.ρ r) (o':=i*sz+j) hT hE p3 p4 w
   refine⟨_,hex (by rw[cZ,hn];exact bt),?_⟩
   rw[ah]
   exact⟨hv.1,fun _=>by rw[Nat.add_assoc]⟩
  ·rename_i z cells j hx
   split at h
   ·rename_i kk ns js
    refine⟨_,_,[],h,aW.pure fun p E' H w ao hr hh ay=> ?_⟩
    obtain⟨p1,p2,p3,rfl,p5⟩:=p
    obtain⟨hv,hn⟩:=gV ay
    rw[hx,ah] at hv
    obtain⟨b,o',cs,cZ,hz,cq,cW⟩:=hv
    have bt:=run_indexAt_array (k:=k) (b:=b) (o':=o'+0) hT hE p1 p2 w
    refine⟨_,hex (by rw[cZ,hn];exact bt),?_⟩
    have ai:n.toNat<ns.length:=by omega
    have fK:cells[n.toNat]? =some (.val (.int kk ns[n.toNat])):=by rw[AZ js];simp[ai]
    have PN:n.toNat<cs.length:=by rw[←(eR cq).1,AZ js];simpa using ai
    obtain⟨u,hu,gm⟩:=(eR cq).2 _ _ fK
    have ly:=aY gm
    rw[ah]
    refine⟨b,o'+n.toNat,[u],by rw[p3];simp,hz,?_,?_⟩
    ·simp only[aw,ah]
     exact⟨_,_,rfl,by rw[ly];simp[List.getD,ai],rfl⟩
    ·intro j v hv
     cases j with
     | zero=>simp at hv;subst hv;exact cW _ _ hu
     | succ j=>simp at hv
   refine⟨_,_,[],h,aW.pure fun p E' H w ao hr hh ay=> ?_⟩
   obtain⟨hv,hn⟩:=gV ay
   rw[hx,ah] at hv
   obtain⟨b,o',cs,cZ,hz,cq,cW⟩:=hv
   have bt:=run_indexAt_array (k:=k) (b:=b) (o':=o'+j) hT hE p.1 p.2 w
   refine⟨_,hex (by rw[cZ,hn];exact bt),?_⟩
   rw[ah]
   exact⟨b,o',cs,by rw[Nat.add_assoc],hz,cq,cW⟩
  ·exact h.elim
 ·exact h.elim

/-! index of a string or an array that is a value -/
def wJ(tb:TypeId→Option TI)(T:TypeId)(x y:AV)(K:KF):Prop:=
 match tb T with
 | none=>False
 | some ti=>match y with
  | .val (.int k n)=>match ti.u with
   | .string=>match x with
    | .val (.string s)=>K (0≤n∧n<s.size) (.val (.int .u8 (s.data.toList.getD n.toNat 0).toNat)) []
    | _=>False
   | .array m E=>match tb E with
    | some ei=>match x with
     | .agg l=>nq ei (fj l (n.toNat*ei.sz)) fun Ψ v=>K (0≤n∧n<m∧Ψ) v []
     | _=>False
    | none=>False
   | _=>False
  | _=>False
theorem GG{tb:TypeId→Option TI}(aA:cj P tb){T:TypeId}{x y:Operand}(ho:o.op= .index T x y){K:KF}(h:wJ tb T (ev x) (ev y) K):∃Φ v us,K Φ v us∧aW P o ev hg Φ v us:=by
 unfold wJ at h
 split at h
 ·exact h.elim
 rename_i ti bF
 have hT:=(aA T ti bF).u
 split at h
 rotate_left
 ·exact h.elim
 rename_i k n hy
 have gV:∀{E:Env}{w:World}{ao:Operand→Value},(∀x∈aQ o.op,ah E w (ev x) (ao x))→ah E w (ev x) (ao x)∧ao y= .int k n:=by
  intro E w ao ay
  refine⟨ay x (by rw[ho];simp[aQ]),?_⟩
  have:=ay y (by rw[ho];simp[aQ])
  rw[hy] at this
  exact aY this
 split at h
 ·rename_i hu
  rw[hu] at hT
  split at h
  rotate_left
  ·exact h.elim
  rename_i s hx
  refine⟨_,_,[],h,aW.pure fun p E' H w ao hr hh ay=> ?_⟩
  obtain⟨p1,p2⟩:=p
  obtain⟨hv,hn⟩:=gV ay
  rw[hx] at hv
  have hv:=aY hv
  refine⟨_,?_,by rw[ah]⟩
  have ai:n.toNat<s.size:=by omega
  have nr:n.toNat<s.data.toList.length:=by simpa using ai
  have e:s[n.toNat]? =some (s.data.toList.getD n.toNat 0):=by
   rw[getElem?_pos s n.toNat ai]
   have e2:s[n.toNat]=s.data.toList[n.toNat]'nr:=rfl
   rw[e2,List.getD,List.getElem?_eq_getElem nr];rfl
  unfold execOp
  simp only[ho,hv,hn]
  unfold Instr.index
  have bB:P.underlying T=some .string:=hT
  simp[Sem.run_bind,asIntOf,run_underlying bB,p1,e]
 ·rename_i m E hu
  rw[hu] at hT
  split at h
  rotate_left
  ·exact h.elim
  rename_i ei fk
  have hE:=aA E ei fk
  split at h
  rotate_left
  ·exact h.elim
  rename_i l hx
  obtain⟨Ψ,v,h,hl⟩:=pT hE h
  refine⟨_,_,[],h,aW.pure fun p E' H w ao hr hh ay=> ?_⟩
  obtain⟨p1,p2,p3⟩:=p
  obtain⟨hv,hn⟩:=gV ay
  rw[hx,ah] at hv
  obtain⟨cs,hv,cq⟩:=hv
  obtain⟨cv,cG,hr2,_⟩:=hl p3 E' w cs cq
  refine⟨cv,?_,cG⟩
  have bB:P.underlying T=some (.array m E):=hT
  unfold execOp
  simp only[ho,hv,hn]
  unfold Instr.index
  simp[Sem.run_bind,asIntOf,run_underlying bB,p1,p2,hE.sizeOf,hr2]
 ·exact h.elim

theorem aU.A0{T E:TypeId}{ti:TI}(hT:P.underlying T=some (.slice E))(hE:aU P E ti):∃z,wK P T E ti.sz ti.bytes z∧z.cells.toList=ti.zero:=by
 obtain⟨z,h1,h2⟩:=hE.info
 exact⟨z,⟨hT,h1,by have:=hE.nj;rw[←h2] at this;simpa using this⟩,h2⟩
/-! slice -/
def gW(a:Option AV)(d:Int)(K:Int→Prop):Prop:=match a with
 | none=>K d
 | some (.val (.int _ n))=>K n
 | some _=>False
theorem iL{a:Option Operand}{d:Nat}{K:Int→Prop}(h:gW (a.map ev) d K):∃n:Int,K n∧∀(E:Env)(w:World)(ao:Operand→Value),(∀x∈a.toList,ah E w (ev x) (ao x))→0≤n→lz (a.map ao) d n.toNat:=by
 cases a with
 | none=>exact⟨d,h,fun E w ao _ _=> .inl ⟨rfl,by simp⟩⟩
 | some x=>
  simp only[Option.map_some,gW] at h
  split at h
  ·rename_i h1;cases h1
  ·rename_i k n h1
   have hx:=Option.some.inj h1
   refine⟨n,h,fun E w ao ay hn=> .inr ⟨k,?_⟩⟩
   have:=ay x (by simp)
   rw[hx] at this
   simp only[Option.map_some,aY this,Option.some.injEq,Value.int.injEq,true_and]
   omega
  ·exact h.elim
def wL(tb:TypeId→Option TI)(hg:Nat→Option U)(T:TypeId)(x:AV)(lo hi:Option AV)(K:KF):Prop:=
 match tb T with
 | none=>False
 | some ti=>match ti.u with
  | .slice E=>pU tb E fun s=>match x with
   | .own r ver sz off n=>gG hg r ver fun Φ=>gW lo 0 fun l=>gW hi n fun h=>K (Φ∧sz=s∧0≤l∧l≤h∧h≤n) (.own r ver sz (off+l.toNat) (h.toNat - l.toNat)) []
   | .bs z c=>gW lo 0 fun l=>gW hi c.length fun h=>K (s=1∧0≤l∧l≤h∧h≤c.length) (.bs z ((c.take h.toNat).drop l.toNat)) []
   | .sl z sz f d c=>gW lo 0 fun l=>gW hi c.length fun h=>K (sz=s∧0≤l∧l≤h∧h≤c.length) (.sl z sz f d ((c.take h.toNat).drop l.toNat)) []
   | .val (.slice none 0 0)=>gW lo 0 fun l=>gW hi 0 fun h=>K (l=0∧h=0) (.val (.slice none 0 0)) []
   | _=>False
  | .string=>match x with
   | .val (.string c)=>gW lo 0 fun l=>gW hi c.size fun h=>K (0≤l∧l≤h∧h≤c.size) (.val (.string (c.extract l.toNat h.toNat))) []
   | _=>False
  | _=>False
theorem GH {T : TypeId} (hT : P.underlying T = some .string) (s : ByteArray) {l h : Nat} {lo hi : Option Value} (hl : lz lo 0 l) (hh : lz hi s.size h) (h1 : l ≤ h) (h2 : h ≤ s.size) (w : World) :
    (Instr.sliceAt T (.string s) lo hi none).run P w= .ok (.string (s.extract l h)) w:=by

 rcases hl with⟨rfl,rfl⟩ | ⟨k,rfl⟩<;>rcases hh with⟨rfl,rfl⟩ | ⟨k',rfl⟩<;>
  simp[Instr.sliceAt,Instr.slice,Instr.sliceBounds,Instr.sliceBound,asIntOf,run_underlying hT,Sem.run_bind,h1,h2]
theorem GI{tb:TypeId→Option TI}(aA:cj P tb){T:TypeId}{x:Operand}{lo hi:Option Operand}(ho:o.op= .slice T x lo hi none){K:KF}(h:wL tb hg T (ev x) (lo.map ev) (hi.map ev) K):∃Φ v us,K Φ v us∧aW P o ev hg Φ v us:=by
 unfold wL at h
 split at h
 ·exact h.elim
 rename_i ti bF
 have hT:=(aA T ti bF).u
 have jt:∀{E:Env}{w:World}{ao:Operand→Value},(∀x∈aQ o.op,ah E w (ev x) (ao x))→ah E w (ev x) (ao x)∧(∀y∈lo.toList,ah E w (ev y) (ao y))∧(∀y∈hi.toList,ah E w (ev y) (ao y)):=by
  intro E w ao ay
  rw[ho] at ay
  simp only[aQ] at ay
  exact⟨ay x (by simp),fun y hy=>ay y (by simp at hy⊢;simp[hy]),fun y hy=>ay y (by simp at hy⊢;simp[hy])⟩
 have hex:∀{w:World}{ao:Operand→Value}{v:Value},(Instr.sliceAt T (ao x) (lo.map ao) (hi.map ao) none).run P w= .ok v w→(execOp ao o).run P w= .ok (.value v) w:=by
  intro w ao v hr
  unfold execOp
  simp only[ho,Sem.run_bind,Option.map_none,hr,Result.andThen_ok,Sem.run_pure]
 split at h
 ·rename_i E hu
  rw[hu] at hT
  obtain⟨ei,h,hE⟩:=tW aA h
  obtain⟨z0,hS,_⟩:=hE.A0 hT
  split at h
  ·rename_i r ver sz off n hx
   obtain⟨Φ,h,hc⟩:=iK h
   obtain⟨l,h,hl⟩:=iL h
   obtain⟨kK,h,jH⟩:=iL h
   refine⟨_,_,[],h,aW.pure fun p E' H w ao hr hh ay=> ?_⟩
   obtain⟨p1,p2,p3,p4,p5⟩:=p
   obtain⟨hv,jI,kL⟩:=jt ay
   rw[hx,ah] at hv
   obtain⟨a,c,dn,h1,h2,jG,h3⟩:=hv.2 (hc p1 E' H w hr hh)
   have bt:=tX hS (a:=a) (n:=n) (c:=c) (hl E' w ao jI p3) (jH E' w ao kL (by omega)) (by omega) (by omega) w
   refine⟨_,hex (by rw[dn];exact bt),?_⟩
   rw[ah]
   refine⟨hv.1,fun _=>⟨_,_,rfl,by omega,by omega,?_,?_⟩⟩
   ·intro e
    split at e
    ·omega
    ·have:=jG (by simpa using e);omega
   ·by_cases gH:c=l.toNat
    ·left;omega
    ·right
     have dz:c≠0:=by omega
     obtain⟨wM,rfl,cur,T',fz,h4,h5⟩:=h3.resolve_left dz
     refine⟨wM,?_,cur,T',fz,h4,?_⟩
     ·simp only[gH,if_false,Option.map_some,Addr.add_lit,p2,Nat.add_mul]
     ·have:off+l.toNat+(c - l.toNat)=off+c:=by omega
      rw[this];exact h5
  ·rename_i z cc hx
   obtain⟨l,h,hl⟩:=iL h
   obtain⟨kK,h,jH⟩:=iL h
   refine⟨_,_,[],h,aW.pure fun p E' H w ao hr hh ay=> ?_⟩
   obtain⟨p2,p3,p4,p5⟩:=p
   obtain⟨hv,jI,kL⟩:=jt ay
   rw[hx,ah] at hv
   obtain⟨a,n,c,dn,rfl,h1,h2,jG,h3⟩:=hv
   have bt:=tX hS (a:=a) (n:=cc.length) (c:=c) (hl E' w ao jI p3) (jH E' w ao kL (by omega)) (by omega) (by omega) w
   refine⟨_,hex (by rw[dn];exact bt),?_⟩
   rw[ah]
   refine⟨_,_,_,rfl,by simp;omega,by omega,by omega,?_,?_⟩
   ·intro e
    split at e
    ·omega
    ·have:=jG (by simpa using e);omega
   ·intro i u hu
    rw[List.getElem?_drop,List.getElem?_take] at hu
    split at hu
    ·obtain⟨b,o',rfl,hz,cW⟩:=h3 _ u hu
     have gH:c≠l.toNat:=by omega
     refine⟨b,o'+l.toNat,?_,hz,?_⟩
     ·simp only[gH,if_false,Option.map_some,Addr.add_lit,p2,Nat.mul_one]
     ·rw[Nat.add_assoc];exact cW
    ·cases hu
  ·rename_i z sz α f d cc hx
   obtain⟨l,h,hl⟩:=iL h
   obtain⟨kK,h,jH⟩:=iL h
   refine⟨_,_,[],h,aW.pure fun p E' H w ao hr hh ay=> ?_⟩
   obtain⟨p2,p3,p4,p5⟩:=p
   obtain⟨hv,jI,kL⟩:=jt ay
   rw[hx,ah] at hv
   obtain⟨a,n,c,dn,rfl,h1,h2,jG,h3⟩:=hv
   have bt:=tX hS (a:=a) (n:=cc.length) (c:=c) (hl E' w ao jI p3) (jH E' w ao kL (by omega)) (by omega) (by omega) w
   refine⟨_,hex (by rw[dn];exact bt),?_⟩
   rw[ah]
   refine⟨_,_,_,rfl,by simp;omega,by omega,by omega,?_,?_⟩
   ·intro e
    split at e
    ·omega
    ·have:=jG (by simpa using e);omega
   ·intro i u hu
    rw[List.getElem?_drop,List.getElem?_take] at hu
    split at hu
    ·obtain⟨b,o',cs,rfl,hz,fK,cq,cW⟩:=h3 _ u hu
     have gH:c≠l.toNat:=by omega
     refine⟨b,o'+l.toNat*sz,cs,?_,hz,fK,cq,fun j u hu=> ?_⟩
     ·simp only[gH,if_false,Option.map_some,Addr.add_lit,p2]
     ·have:=cW j u hu
      rw[Nat.add_mul] at this
      rw[Nat.add_assoc o'];exact this
    ·cases hu
  ·rename_i hx
   obtain⟨l,h,hl⟩:=iL (d:=0) h
   obtain⟨kK,h,jH⟩:=iL (d:=0) h
   refine⟨_,_,[],h,aW.pure fun p E' H w ao hr hh ay=> ?_⟩
   obtain⟨rfl,rfl⟩:=p
   obtain⟨hv,jI,kL⟩:=jt ay
   rw[hx] at hv
   have hv:=aY hv
   have bt:=tX hS (a:=none) (n:=0) (c:=0) (hl E' w ao jI (by omega)) (jH E' w ao kL (by omega)) (by omega) (by omega) w
   exact⟨_,hex (by rw[hv];exact bt),by rw[ah];rfl⟩
  ·exact h.elim
 ·rename_i hu
  rw[hu] at hT
  have bB:P.underlying T=some .string:=hT
  split at h
  rotate_left
  ·exact h.elim
  rename_i c hx
  obtain⟨l,h,hl⟩:=iL h
  obtain⟨kK,h,jH⟩:=iL h
  refine⟨_,_,[],h,aW.pure fun p E' H w ao hr hh ay=> ?_⟩
  obtain⟨p3,p4,p5⟩:=p
  obtain⟨hv,jI,kL⟩:=jt ay
  rw[hx] at hv
  have hv:=aY hv
  refine⟨_,hex (v:= .string (c.extract l.toNat kK.toNat)) ?_,by rw[ah]⟩
  have b1:=hl E' w ao jI p3
  have b2:=jH E' w ao kL (by omega)
  have q1:l.toNat≤kK.toNat:=by omega
  have q2:kK.toNat≤c.size:=by omega
  rw[hv]
  exact GH bB c b1 b2 q1 q2 w
 ·exact h.elim
/-! slice with three places -/
def wN(tb:TypeId→Option TI)(hg:Nat→Option U)(T:TypeId)(x:AV)(lo:Option AV)(hi mx:AV)(K:KF):Prop:=
 match tb T with
 | none=>False
 | some ti=>match ti.u with
  | .slice E=>pU tb E fun s=>match x with
   | .own r ver sz off n=>gG hg r ver fun Φ=>gW lo 0 fun l=>gW (some hi) 0 fun h=>gW (some mx) 0 fun m=>K (Φ∧sz=s∧0≤l∧l≤h∧h≤m∧m≤n) (.own r ver sz (off+l.toNat) (h.toNat - l.toNat)) []
   | _=>False
  | _=>False
theorem GJ {t E : TypeId} {sz bytes : Nat} {z : Value} (T : wK P t E sz bytes z) {a : Option Addr} {n c l h m : Nat} {lo : Option Value} {hi mx : Value} (hl : lz lo 0 l) (hh : lz (some hi) 0 h) (hm : lz (some mx) 0 m) (h1 : l ≤ h) (h2 : h ≤ m) (h3 : m ≤ c) (w : World) :
    (Instr.sliceAt t (.slice a n c) lo (some hi) (some mx)).run P w= .ok (.slice (if m=l then a else a.map (·.add (l*sz))) (h - l) (m - l)) w:=by
 obtain⟨i,bG,hz,cw,wO⟩:=info_parts T.info
 subst cw
 rcases hh with⟨q,_⟩ | ⟨k',hq⟩
 ·cases q
 cases hq
 rcases hm with⟨q,_⟩ | ⟨k2,hq⟩
 ·cases q
 cases hq
 rcases hl with⟨rfl,rfl⟩ | ⟨k,rfl⟩<;>
  simp[Instr.sliceAt,Instr.slice,Instr.sliceBounds,Instr.sliceBound,asIntOf,run_underlying T.under,Sem.run_bind,Go.sizeOf,typeInfo,bG,h1,h2,h3]
theorem GK{tb:TypeId→Option TI}(aA:cj P tb){T:TypeId}{x:Operand}{lo:Option Operand}{hi mx:Operand}(ho:o.op= .slice T x lo (some hi) (some mx)){K:KF}(h:wN tb hg T (ev x) (lo.map ev) (ev hi) (ev mx) K):∃Φ v us,K Φ v us∧aW P o ev hg Φ v us:=by
 unfold wN at h
 split at h
 ·exact h.elim
 rename_i ti bF
 have hT:=(aA T ti bF).u
 have jt:∀{E:Env}{w:World}{ao:Operand→Value},(∀x∈aQ o.op,ah E w (ev x) (ao x))→ah E w (ev x) (ao x)∧(∀y∈lo.toList,ah E w (ev y) (ao y))∧ah E w (ev hi) (ao hi)∧ah E w (ev mx) (ao mx):=by
  intro E w ao ay
  rw[ho] at ay
  simp only[aQ] at ay
  exact⟨ay x (by simp),fun y hy=>ay y (by simp at hy⊢;simp[hy]),ay hi (by simp),ay mx (by simp)⟩
 split at h
 rotate_left
 ·exact h.elim
 rename_i E hu
 rw[hu] at hT
 obtain⟨ei,h,hE⟩:=tW aA h
 obtain⟨z0,hS,_⟩:=hE.A0 hT
 split at h
 rotate_left
 ·exact h.elim
 rename_i r ver sz off n hx
 obtain⟨Φ,h,hc⟩:=iK h
 obtain⟨l,h,hl⟩:=iL h
 obtain⟨kK,h,jH⟩:=iL (a:=some hi) (d:=0) h
 obtain⟨m',h,rI⟩:=iL (a:=some mx) (d:=0) h
 refine⟨_,_,[],h,aW.pure fun p E' H w ao hr hh ay=> ?_⟩
 obtain⟨p1,p2,p3,p4,p5,p6⟩:=p
 obtain⟨hv,jI,kL,GL⟩:=jt ay
 rw[hx,ah] at hv
 obtain⟨a,c,dn,h1,h2,jG,h3⟩:=hv.2 (hc p1 E' H w hr hh)
 have bt:=GJ hS (a:=a) (n:=n) (c:=c) (hl E' w ao jI p3) (jH E' w ao (by simpa using kL) (by omega)) (rI E' w ao (by simpa using GL) (by omega)) (by omega) (by omega) (by omega) w
 refine⟨.slice (if m'.toNat=l.toNat then a else a.map (·.add (l.toNat*ei.sz))) (kK.toNat - l.toNat) (m'.toNat - l.toNat),?_,?_⟩
 ·unfold execOp
  simp only[ho,Sem.run_bind,Option.map_some,dn,bt,Result.andThen_ok,Sem.run_pure]
 rw[ah]
 refine⟨hv.1,fun _=>⟨_,_,rfl,by omega,by omega,?_,?_⟩⟩
 ·intro e
  split at e
  ·omega
  ·have:=jG (by simpa using e);omega
 ·by_cases gH:m'.toNat=l.toNat
  ·left;omega
  ·right
   have dz:c≠0:=by omega
   obtain⟨wM,rfl,cur,T',fz,h4,h5⟩:=h3.resolve_left dz
   refine⟨wM,?_,cur,T',fz,h4,?_⟩
   ·simp only[gH,if_false,Option.map_some,Addr.add_lit,p2,Nat.add_mul]
   ·have:(off+l.toNat+(m'.toNat - l.toNat))*sz≤(off+c)*sz:=Nat.mul_le_mul_right _ (by omega)
    omega
end
end Go.Proofs.YtpbpiehcchannaaGreatDoor

/-! Abstract values: numbers, tests, lengths, parts. Conditions: what 'TIok' says of the types. -/
namespace Go.Proofs.YtpbpiehcchannaaGreatDoor
set_option linter.unusedVariables false
set_option linter.unusedSimpArgs false
section
variable {P:Program} {o:Oper} {ev:Operand→AV} {hg:Nat→Option U}
theorem wP {op : BinOp} {T : TypeId} {x y : Operand} {T' : TypeId} (ho : o.op = .binOp op T x y T') {w : World} {ao : Operand → Value} {u : Value} (GM : (eqGuard op T x y (ao x) (ao y)).run P w = .ok () w)
    (hr:(binOp op T (ao x) (ao y)).run P w= .ok u w):(execOp ao o).run P w= .ok (.value u) w:=by
 unfold execOp
 simp only[ho,Sem.run_bind,GM,Result.andThen_ok,hr,Sem.run_pure]
theorem GN{op:BinOp}{T:TypeId}{x y:Operand}{k k':IntKind}{a b:Int}(w:World):(eqGuard op T x y (.int k a) (.int k' b)).run P w= .ok () w:=by
 unfold eqGuard;split<;>rfl
theorem A1{op:BinOp}{T:TypeId}{x y:Operand}{a b:Bool}(w:World):(eqGuard op T x y (.bool a) (.bool b)).run P w= .ok () w:=by
 unfold eqGuard;split<;>rfl
theorem oo{op:BinOp}{T:TypeId}{x y:Operand}{a b:ByteArray}(w:World):(eqGuard op T x y (.string a) (.string b)).run P w= .ok () w:=by
 unfold eqGuard;split<;>rfl
theorem tY{op:BinOp}{T:TypeId}{x y:Operand}{a b:Option Addr}(w:World):(eqGuard op T x y (.pointer a) (.pointer b)).run P w= .ok () w:=by
 unfold eqGuard;split<;>rfl
theorem nu{op:BinOp}{T:TypeId}{x y:Operand}{a b:Option Addr}{n c m d:Nat}(w:World):(eqGuard op T x y (.slice a n c) (.slice b m d)).run P w= .ok () w:=by
 unfold eqGuard;split<;>rfl

def pW(op:BinOp)(K:Prop→AV→Prop):Prop:=match op with
 | .eql=>K True (.val (.bool false))
 | .neq=>K True (.val (.bool true))
 | _=>False
def tZ(op:BinOp)(K:Prop→AV→Prop):Prop:=match op with
 | .eql=>K True (.val (.bool true))
 | .neq=>K True (.val (.bool false))
 | _=>False
def A2(op:BinOp)(a b:Bool)(K:Prop→AV→Prop):Prop:=match op with
 | .eql=>K True (.val (.bool (a==b)))
 | .neq=>K True (.val (.bool (!(a==b))))
 | _=>False
def A3(op:BinOp)(a b:ByteArray)(K:Prop→AV→Prop):Prop:=match op with
 | .eql=>K True (.val (.bool (decide (a.data.toList=b.data.toList))))
 | .neq=>K True (.val (.bool (!decide (a.data.toList=b.data.toList))))
 | .add=>K (a.size+b.size≤9223372036854775807) (.val (.string (a++b)))
 | .lss=>K True (.val (.bool (Op.bytesLess a.data.toList b.data.toList)))
 | .leq=>K True (.val (.bool (Op.bytesLess a.data.toList b.data.toList||decide (a.data.toList=b.data.toList))))
 | .gtr=>K True (.val (.bool (!(Op.bytesLess a.data.toList b.data.toList||decide (a.data.toList=b.data.toList)))))
 | .geq=>K True (.val (.bool (!Op.bytesLess a.data.toList b.data.toList)))
 | _=>False
def pX:List AV→Option (List Value)
 | []=>some []
 | x::l=>match x with
  | .val v=>match pX l with
   | some vs=>some (v::vs)
   | none=>none
  | _=>none
theorem rJ{E:Env}{w:World}:∀{l:List AV}{vs cs:List Value},pX l=some vs→aw E w l cs→cs=vs
 | [],vs,cs,h,hr=>by
  simp only[pX,Option.some.injEq] at h
  rw[aw] at hr
  rw[hr,h]
 | x::l,vs,cs,h,hr=>by
  unfold pX at h
  split at h
  ·split at h
   ·rename_i v _ us hu
    cases h
    rw[aw] at hr
    obtain⟨v',cQ,rfl,h1,h2⟩:=hr
    rw[ah] at h1
    rw[h1,rJ hu h2]
   ·cases h
  ·cases h
def A4(op:BinOp)(vs ws:List Value)(K:AV→Prop):Prop:=match op with
 | .eql=>K (.val (.bool (mg vs ws)))
 | .neq=>K (.val (.bool (!mg vs ws)))
 | _=>False
def wQ(tb:TypeId→Option TI)(hg:Nat→Option U)(op:BinOp)(T:TypeId)(x y:AV)(K:KF):Prop:=
 match x with
 | .val (.int k a)=>match y with
  | .val (.int k' b)=>match op with
   | .shl=>tO .shl k a b fun Φ v=>K Φ v []
   | .shr=>tO .shr k a b fun Φ v=>K Φ v []
   | op=>wx op k a b fun Φ v=>K (k'=k∧Φ) v []
  | _=>False
 | .val (.bool a)=>match y with
  | .val (.bool b)=>match tb T with
   | some ti=>match ti.u with
    | .bool=>A2 op a b fun Φ v=>K Φ v []
    | _=>False
   | none=>False
  | _=>False
 | .val (.string a)=>match y with
  | .val (.string b)=>A3 op a b fun Φ v=>K Φ v []
  | _=>False
 | .ref r ver _ _ _=>match y with
  | .val (.pointer none)=>match tb T with
   | some ti=>match ti.u with
    | .ptr _=>gG hg r ver fun Ψ=>pW op fun Φ v=>K Ψ v []
    | _=>False
   | none=>False
  | _=>False
 | .val (.pointer none)=>match y with
  | .val (.pointer none)=>match tb T with
   | some ti=>match ti.u with
    | .ptr _=>tZ op fun Φ v=>K Φ v []
    | _=>False
   | none=>False
  | _=>False
 | .val (.slice none 0 0)=>match y with
  | .val (.slice none 0 0)=>match tb T with
   | some ti=>match ti.u with
    | .slice _=>tZ op fun Φ v=>K Φ v []
    | _=>False
   | none=>False
  | _=>False
 | .own r ver sz off n=>match y with
  | .val (.slice none 0 0)=>match tb T with
   | some ti=>match ti.u with
    | .slice _=>gG hg r ver fun Ψ=>pW op fun Φ v=>K (Ψ∧0<n) v []
    | _=>False
   | none=>False
  | _=>False
 | .bs z l=>match y with
  | .val (.slice none 0 0)=>match tb T with
   | some ti=>match ti.u with
    | .slice _=>pW op fun Φ v=>K (0<l.length) v []
    | _=>False
   | none=>False
  | _=>False
 | .agg l=>match y with
  | .agg m=>match tb T with
   | some ti=>match ti.cmp with
    | true=>match pX l with
     | some vs=>match pX m with
      | some ws=>A4 op vs ws fun v=>K (fY ti.zero vs∧fY ti.zero ws) v []
      | none=>False
     | none=>False
    | false=>False
   | none=>False
  | _=>False
 | _=>False
theorem GO{tb:TypeId→Option TI}(aA:cj P tb){op:BinOp}{T T':TypeId}{x y:Operand}(ho:o.op= .binOp op T x y T'){K:KF}(h:wQ tb hg op T (ev x) (ev y) K):∃Φ v us,K Φ v us∧aW P o ev hg Φ v us:=by
 have gV:∀{E:Env}{w:World}{ao:Operand→Value},(∀x∈aQ o.op,ah E w (ev x) (ao x))→ah E w (ev x) (ao x)∧ah E w (ev y) (ao y):=by
  intro E w ao ay
  rw[ho] at ay
  exact⟨ay x (by simp[aQ]),ay y (by simp[aQ])⟩
 have fin : ∀ {Φ : Prop} {u : Value}, K Φ (.val u) [] → (Φ → ∀ (E : Env) (H : List U) (w : World) (a b : Value), HR E w H → (∀ (r : Nat) (e : U), hg r = some e → H[r]? = some e) → ah E w (ev x) a → ah E w (ev y) b →
     (eqGuard op T x y a b).run P w= .ok () w∧(binOp op T a b).run P w= .ok u w)→∃Φ v us,K Φ v us∧aW P o ev hg Φ v us:=by
  intro Φ u hK bt
  refine⟨Φ,_,[],hK,aW.pure fun p E H w ao hr hh ay=> ?_⟩
  obtain⟨h1,h2⟩:=gV ay
  obtain⟨h3,h4⟩:=bt p E H w _ _ hr hh h1 h2
  exact⟨u,wP ho h3 h4,by rw[ah]⟩
 unfold wQ at h
 split at h
 ·rename_i k a hx
  split at h
  rotate_left
  ·exact h.elim
  rename_i k' b hy
  have key:∀{Φ:Prop}{u:Value},K Φ (.val u) []→(Φ→∀w,(binOp op T (.int k a) (.int k' b)).run P w= .ok u w)→∃Φ v us,K Φ v us∧aW P o ev hg Φ v us:=by
   intro Φ u hK bt
   refine fin hK fun p E H w a' b' hr hh h1 h2=> ?_
   rw[hx] at h1;rw[hy] at h2
   rw[aY h1,aY h2]
   exact⟨GN w,bt p w⟩
  split at h
  ·obtain⟨Φ,u,h1,h2⟩:=AR (P:=P) (k':=k') T h
   exact key h1 h2
  ·obtain⟨Φ,u,h1,h2⟩:=AR (P:=P) (k':=k') T h
   exact key h1 h2
  ·obtain⟨Φ,u,h1,h2⟩:=Gx (P:=P) T h
   exact key h1 (fun p w=>by rw[p.1];exact h2 p.2 w)
 ·rename_i a hx
  repeat' (split at h;rotate_left;(try exact h.elim))
  all_goals (try exact h.elim)
  rename_i _ b hy _ ti bF _ hu
  have hT:=(aA T ti bF).u
  rw[hu] at hT
  have bB:P.underlying T=some .bool:=hT
  unfold A2 at h
  split at h
  ·refine fin h fun p E H w a' b' hr hh h1 h2=> ?_
   rw[hx] at h1;rw[hy] at h2
   rw[aY h1,aY h2]
   exact⟨A1 w,run_eql_bool w T a b bB⟩
  ·refine fin h fun p E H w a' b' hr hh h1 h2=> ?_
   rw[hx] at h1;rw[hy] at h2
   rw[aY h1,aY h2]
   exact⟨A1 w,run_neq_bool w T a b bB⟩
  ·exact h.elim
 ·rename_i a hx
  split at h
  rotate_left
  ·exact h.elim
  rename_i b hy
  have e:(a.toList==b.toList)=decide (a.data.toList=b.data.toList):=by
   rw[ByteArray.toList_eq,ByteArray.toList_eq,Bool.eq_iff_iff];simp
  unfold A3 at h
  split at h
  ·refine fin h fun p E H w a' b' hr hh h1 h2=> ?_
   rw[hx] at h1;rw[hy] at h2
   rw[aY h1,aY h2]
   exact⟨oo w,by simp only[binOp,Op.stringOp,Sem.run_pure,e]⟩
  ·refine fin h fun p E H w a' b' hr hh h1 h2=> ?_
   rw[hx] at h1;rw[hy] at h2
   rw[aY h1,aY h2]
   exact⟨oo w,by simp only[binOp,Op.stringOp,Sem.run_pure,e]⟩
  ·refine fin h fun p E H w a' b' hr hh h1 h2=> ?_
   rw[hx] at h1;rw[hy] at h2
   rw[aY h1,aY h2]
   refine⟨oo w,?_⟩
   have:¬(((a.size+b.size:Nat):Int)>IntKind.i64.max):=by simp[IntKind.max,IntKind.signed,IntKind.bits];omega
   simp only[binOp,Op.stringOp]
   rw[if_neg this];rfl
  ·refine fin h fun p E H w a' b' hr hh h1 h2=> ?_
   rw[hx] at h1;rw[hy] at h2
   rw[aY h1,aY h2]
   exact⟨oo w,by(simp only[binOp,Op.stringOp,Sem.run_pure];(try rw[e]);simp only[ByteArray.toList_eq])⟩
  ·refine fin h fun p E H w a' b' hr hh h1 h2=> ?_
   rw[hx] at h1;rw[hy] at h2
   rw[aY h1,aY h2]
   exact⟨oo w,by(simp only[binOp,Op.stringOp,Sem.run_pure];(try rw[e]);simp only[ByteArray.toList_eq])⟩
  ·refine fin h fun p E H w a' b' hr hh h1 h2=> ?_
   rw[hx] at h1;rw[hy] at h2
   rw[aY h1,aY h2]
   exact⟨oo w,by(simp only[binOp,Op.stringOp,Sem.run_pure];(try rw[e]);simp only[ByteArray.toList_eq])⟩
  ·refine fin h fun p E H w a' b' hr hh h1 h2=> ?_
   rw[hx] at h1;rw[hy] at h2
   rw[aY h1,aY h2]
   exact⟨oo w,by(simp only[binOp,Op.stringOp,Sem.run_pure];(try rw[e]);simp only[ByteArray.toList_eq])⟩
  ·exact h.elim
 ·rename_i r ver s i j hx
  repeat' (split at h;rotate_left;(try exact h.elim))
  all_goals (try exact h.elim)
  rename_i _ hy _ ti bF _ E0 hu
  have hT:=(aA T ti bF).u
  rw[hu] at hT
  have bB:P.underlying T=some (.pointer (P.pointee T)):=by
   have:P.underlying T=some (.pointer E0):=hT
   simp[Program.pointee,this]
  obtain⟨Ψ,h,hc⟩:=iK h
  unfold pW at h
  split at h
  ·refine fin h fun p E H w a' b' hr hh h1 h2=> ?_
   rw[hx,ah] at h1;rw[hy] at h2
   rw[h1.2 (hc p E H w hr hh),aY h2]
   exact⟨tY w,run_eql_pointer_nil w T _ bB⟩
  ·refine fin h fun p E H w a' b' hr hh h1 h2=> ?_
   rw[hx,ah] at h1;rw[hy] at h2
   rw[h1.2 (hc p E H w hr hh),aY h2]
   exact⟨tY w,run_neq_pointer_nil w T _ bB⟩
  ·exact h.elim
 ·rename_i hx
  repeat' (split at h;rotate_left;(try exact h.elim))
  all_goals (try exact h.elim)
  rename_i _ hy _ ti bF _ E0 hu
  have hT:=(aA T ti bF).u
  rw[hu] at hT
  have bB:P.underlying T=some (.pointer (P.pointee T)):=by
   have:P.underlying T=some (.pointer E0):=hT
   simp[Program.pointee,this]
  unfold tZ at h
  split at h
  ·refine fin h fun p E H w a' b' hr hh h1 h2=> ?_
   rw[hx] at h1;rw[hy] at h2
   rw[aY h1,aY h2]
   exact⟨tY w,run_eql_pointer_nil w T _ bB⟩
  ·refine fin h fun p E H w a' b' hr hh h1 h2=> ?_
   rw[hx] at h1;rw[hy] at h2
   rw[aY h1,aY h2]
   exact⟨tY w,run_neq_pointer_nil w T _ bB⟩
  ·exact h.elim
 ·rename_i hx
  repeat' (split at h;rotate_left;(try exact h.elim))
  all_goals (try exact h.elim)
  rename_i _ hy _ ti bF _ E0 hu
  have hT:=(aA T ti bF).u
  rw[hu] at hT
  have bB:P.underlying T=some (.slice E0):=hT
  unfold tZ at h
  split at h
  ·refine fin h fun p E H w a' b' hr hh h1 h2=> ?_
   rw[hx] at h1;rw[hy] at h2
   rw[aY h1,aY h2]
   exact⟨nu w,run_eql_nil_slice w T E0 none 0 0 0 0 bB⟩
  ·refine fin h fun p E H w a' b' hr hh h1 h2=> ?_
   rw[hx] at h1;rw[hy] at h2
   rw[aY h1,aY h2]
   exact⟨nu w,run_neq_nil_slice w T E0 none 0 0 0 0 bB⟩
  ·exact h.elim
 ·rename_i r ver sz off n hx
  repeat' (split at h;rotate_left;(try exact h.elim))
  all_goals (try exact h.elim)
  rename_i _ hy _ ti bF _ E0 hu
  have hT:=(aA T ti bF).u
  rw[hu] at hT
  have bB:P.underlying T=some (.slice E0):=hT
  obtain⟨Ψ,h,hc⟩:=iK h
  have rK:∀{E:Env}{H:List U}{w:World}{a':Value},Ψ→0<n→HR E w H→(∀(r:Nat)(e:U),hg r=some e→H[r]? =some e)→ah E w (ev x) a'→∃ad c,a'= .slice (some ad) n c:=by
   intro E H w a' p1 p2 hr hh h1
   rw[hx,ah] at h1
   obtain⟨a,c,rfl,h3,h4,h5,h6⟩:=h1.2 (hc p1 E H w hr hh)
   cases a with
   | none=>have:=h5 rfl;omega
   | some ad=>exact⟨ad,c,rfl⟩
  unfold pW at h
  split at h
  ·refine fin h fun p E H w a' b' hr hh h1 h2=> ?_
   obtain⟨ad,c,rfl⟩:=rK p.1 p.2 hr hh h1
   rw[hy] at h2
   rw[aY h2]
   exact⟨nu w,Lib.run_eql_slice_nil w T E0 (some ad) n c 0 0 bB⟩
  ·refine fin h fun p E H w a' b' hr hh h1 h2=> ?_
   obtain⟨ad,c,rfl⟩:=rK p.1 p.2 hr hh h1
   rw[hy] at h2
   rw[aY h2]
   exact⟨nu w,run_neq_slice_nil_any w T E0 (some ad) n c 0 0 bB⟩
  ·exact h.elim
 ·rename_i z l hx
  repeat' (split at h;rotate_left;(try exact h.elim))
  all_goals (try exact h.elim)
  rename_i _ hy _ ti bF _ E0 hu
  have hT:=(aA T ti bF).u
  rw[hu] at hT
  have bB:P.underlying T=some (.slice E0):=hT
  have rK:∀{E:Env}{w:World}{a':Value},0<l.length→ah E w (ev x) a'→∃ad n c,a'= .slice (some ad) n c:=by
   intro E w a' p2 h1
   rw[hx,ah] at h1
   obtain⟨a,n,c,rfl,h3,h4,h5,h6,h7⟩:=h1
   cases a with
   | none=>have:=h6 rfl;omega
   | some ad=>exact⟨ad,_,c,rfl⟩
  unfold pW at h
  split at h
  ·refine fin h fun p E H w a' b' hr hh h1 h2=> ?_
   obtain⟨ad,n,c,rfl⟩:=rK p h1
   rw[hy] at h2
   rw[aY h2]
   exact⟨nu w,Lib.run_eql_slice_nil w T E0 (some ad) n c 0 0 bB⟩
  ·refine fin h fun p E H w a' b' hr hh h1 h2=> ?_
   obtain⟨ad,n,c,rfl⟩:=rK p h1
   rw[hy] at h2
   rw[aY h2]
   exact⟨nu w,run_neq_slice_nil_any w T E0 (some ad) n c 0 0 bB⟩
  ·exact h.elim
 ·rename_i l hx
  repeat' (split at h;rotate_left;(try exact h.elim))
  all_goals (try exact h.elim)
  rename_i _ m hy _ ti bF _ wR _ vs wS _ ws A5
  have hT:=(aA T ti bF).cmp wR
  unfold A4 at h
  split at h
  ·refine fin h fun p E H w a' b' hr hh h1 h2=> ?_
   rw[hx,ah] at h1;rw[hy,ah] at h2
   obtain⟨cs,rfl,g1⟩:=h1
   obtain⟨ds,rfl,g2⟩:=h2
   rw[rJ wS g1,rJ A5 g2]
   obtain⟨q1,q2,q3,q4⟩:=hT w vs ws x y p.1 p.2
   exact⟨q1,q3⟩
  ·refine fin h fun p E H w a' b' hr hh h1 h2=> ?_
   rw[hx,ah] at h1;rw[hy,ah] at h2
   obtain⟨cs,rfl,g1⟩:=h1
   obtain⟨ds,rfl,g2⟩:=h2
   rw[rJ wS g1,rJ A5 g2]
   obtain⟨q1,q2,q3,q4⟩:=hT w vs ws x y p.1 p.2
   exact⟨q2,q4⟩
  ·exact h.elim
 ·exact h.elim
/-! one operand -/
def wT(op:UnOp)(x:AV)(K:KF):Prop:=match x with
 | .val (.bool b)=>match op with
  | .not=>K True (.val (.bool (!b))) []
  | _=>False
 | .val (.int k a)=>match op with
  | .neg=>ar k (0 - a) fun Φ v=>K Φ v []
  | .xor=>match k with
   | .u8=>K (0≤a∧a≤255) (.val (.int .u8 (255 - a))) []
   | .u32=>K (0≤a∧a≤4294967295) (.val (.int .u32 (4294967295 - a))) []
   | .u64=>K (0≤a∧a≤18446744073709551615) (.val (.int .u64 (18446744073709551615 - a))) []
   | _=>False
  | _=>False
 | _=>False
theorem GP(n:Nat){a:Nat}(h:a<2^n):(2^n - 1)^^^a=2^n - 1 - a:=by
 apply Nat.eq_of_testBit_eq
 intro i
 rw[Nat.testBit_xor,Nat.testBit_two_pow_sub_one]
 have:2^n - 1 - a=2^n - (a+1):=by omega
 rw[this,Nat.testBit_two_pow_sub_succ h]
 by_cases hi:i<n
 ·simp[hi]
 ·have:a.testBit i=false:=Nat.testBit_lt_two_pow (Nat.lt_of_lt_of_le h (Nat.pow_le_pow_right (by decide) (by omega)))
  simp[hi,this]
theorem unary_xor{k:IntKind}(hs:k.signed=false){a:Int}(h0:0≤a)(h1:dm k a)(w:World):(Op.unary .xor (.int k a)).run P w= .ok (.int k (k.max - a)) w:=by
 have ai:=nk h1 h0
 have hm:dm k k.max:=by cases k<;>simp[IntKind.max,IntKind.signed,IntKind.bits,dm] at hs⊢
 have wU:(0:Int)≤k.max:=by cases k<;>simp[IntKind.max,IntKind.signed,IntKind.bits] at hs⊢
 have GQ:k.max.toNat=2^k.bits - 1:=by cases k<;>simp[IntKind.max,IntKind.signed,IntKind.bits] at hs⊢<;>rfl
 have e:k.wrap ((BitVec.ofInt k.bits k.max^^^BitVec.ofInt k.bits a).toNat:Int)=k.max - a:=by
  rw[BitVec.toNat_xor,nl hm wU,nl h1 h0,GQ,GP _ ai]
  rw[rG (by omega) (fun h=>by rw[hs] at h;cases h)]
  omega
 simp only[Op.unary,hs,Op.intBits,Bool.false_eq_true,if_false,Sem.run_pure,e]
theorem GR{op:UnOp}{T:TypeId}{x:Operand}(ho:o.op= .unOp op T x){K:KF}(h:wT op (ev x) K):∃Φ v us,K Φ v us∧aW P o ev hg Φ v us:=by
 have fin:∀{Φ:Prop}{u u':Value},K Φ (.val u) []→ev x= .val u'→(Φ→∀w,(Op.unary op u').run P w= .ok u w)→∃Φ v us,K Φ v us∧aW P o ev hg Φ v us:=by
  intro Φ u u' hK hx bt
  refine⟨Φ,_,[],hK,aW.pure fun p E H w ao hr hh ay=> ?_⟩
  have h1:=ay x (by rw[ho];simp[aQ])
  rw[hx] at h1
  have h1:=aY h1
  refine⟨u,?_,by rw[ah]⟩
  unfold execOp
  simp only[ho,h1,Sem.run_bind,bt p w,Result.andThen_ok,Sem.run_pure]
 unfold wT at h
 split at h
 ·rename_i b hx
  split at h
  ·exact fin h hx fun p w=>rfl
  ·exact h.elim
 ·rename_i k a hx
  split at h
  ·obtain⟨Φ,m,h1,h2⟩:=pR h
   exact fin h1 hx fun p w=>by simp only[Op.unary,Op.intArith,h2 p,Sem.run_pure]
  ·split at h
   ·exact fin h hx fun p w=>by have h9:=unary_xor (P:=P) (k:= .u8) rfl p.1 ⟨p.1,p.2⟩ w;simpa [IntKind.max,IntKind.signed,IntKind.bits] using h9
   ·exact fin h hx fun p w=>by have h9:=unary_xor (P:=P) (k:= .u32) rfl p.1 ⟨p.1,p.2⟩ w;simpa [IntKind.max,IntKind.signed,IntKind.bits] using h9
   ·exact fin h hx fun p w=>by have h9:=unary_xor (P:=P) (k:= .u64) rfl p.1 ⟨p.1,p.2⟩ w;simpa [IntKind.max,IntKind.signed,IntKind.bits] using h9
   ·exact h.elim
  ·exact h.elim
 ·exact h.elim
/-! conversions of numbers -/
def wV(tb:TypeId→Option TI)(S T:TypeId)(x:AV)(K:KF):Prop:=match x with
 | .val (.int _ n)=>match tb S with
  | some si=>match tb T with
   | some ti=>match si.u with
    | .int _=>match ti.u with
     | .int k=>ar k n fun Φ v=>K Φ v []
     | _=>False
    | _=>False
   | none=>False
  | none=>False
 | _=>False
theorem GS{tb:TypeId→Option TI}(aA:cj P tb){S T:TypeId}{x:Operand}(ho:o.op= .convert S T x){K:KF}(h:wV tb S T (ev x) K):∃Φ v us,K Φ v us∧aW P o ev hg Φ v us:=by
 unfold wV at h
 repeat' (split at h;rotate_left;(try exact h.elim))
 all_goals (try exact h.elim)
 rename_i _ k0 n hx _ si wW _ ti bF _ k1 A6 _ k hu
 have hS:=(aA S si wW).u
 have hT:=(aA T ti bF).u
 rw[A6] at hS;rw[hu] at hT
 have nv:P.underlying S=some (.int k1):=hS
 have bB:P.underlying T=some (.int k):=hT
 obtain⟨Φ,m,h1,h2⟩:=pR h
 refine⟨Φ,_,[],h1,aW.pure fun p E H w ao hr hh ay=> ?_⟩
 have hv:=ay x (by rw[ho];simp[aQ])
 rw[hx] at hv
 have hv:=aY hv
 refine⟨_,?_,by rw[ah]⟩
 unfold execOp
 simp only[ho,hv,Sem.run_bind]
 unfold convert
 simp[Sem.run_bind,run_underlying nv,run_underlying bB,Conv.intToInt,h2 p]
/-! copies -/
theorem A7{x:Operand}(ho:o.op= .move x∨o.op= .assign x){K:KF}(h:K True (ev x) []):∃Φ v us,K Φ v us∧aW P o ev hg Φ v us:=by
 refine⟨_,_,_,h,aW.pure fun p E H w ao hr hh ay=>⟨ao x,?_,ay x (by rcases ho with ho | ho<;>rw[ho]<;>simp[aQ])⟩⟩
 rcases ho with ho | ho
 ·exact GU ho rfl
 ·exact GV ho rfl
def wX(x:AV)(i:Nat)(K:KF):Prop:=match x with
 | .al l=>K (i<l.length) (bn l i) []
 | _=>False
theorem GW{l:List AV}{i:Nat}(h:i<l.length):l[i]? =some (bn l i):=by
 unfold bn
 rw[bS,List.getElem?_eq_getElem h]
theorem GX{x:Operand}{i:Nat}(ho:o.op= .extract x i){K:KF}(h:wX (ev x) i K):∃Φ v us,K Φ v us∧aW P o ev hg Φ v us:=by
 unfold wX at h
 split at h
 ·rename_i l hx
  refine⟨_,_,_,h,aW.pure fun p E H w ao hr hh ay=> ?_⟩
  have hv:=ay x (by rw[ho];simp[aQ])
  rw[hx,ah] at hv
  obtain⟨cs,hv,cq⟩:=hv
  obtain⟨u,hu,gm⟩:=(eR cq).2 i _ (GW p)
  refine⟨u,?_,gm⟩
  unfold execOp
  simp[ho,hv,Instr.extract,hu]
 ·exact h.elim
def A8(tb:TypeId→Option TI)(T:TypeId)(x:AV)(k:Nat)(K:KF):Prop:=
 tV tb T k fun off fi _=>match x with
  | .agg l=>nq fi (fj l off) fun Φ v=>K Φ v []
  | _=>False
theorem GY{tb:TypeId→Option TI}(aA:cj P tb){T:TypeId}{x:Operand}{k:Nat}(ho:o.op= .field T x k){K:KF}(h:A8 tb T (ev x) k K):∃Φ v us,K Φ v us∧aW P o ev hg Φ v us:=by
 obtain⟨off,fi,jr,f,h,hu,hf,wG,om⟩:=AW aA h
 split at h
 ·rename_i l hx
  obtain⟨Φ,v,h,hl⟩:=pT om h
  refine⟨_,_,_,h,aW.pure fun p E H w ao hr hh ay=> ?_⟩
  have hv:=ay x (by rw[ho];simp[aQ])
  rw[hx,ah] at hv
  obtain⟨cs,hv,cq⟩:=hv
  obtain⟨cv,h1,h2,_⟩:=hl p E w cs cq
  refine⟨cv,?_,h1⟩
  unfold execOp
  simp only[ho,hv]
  unfold Instr.field
  simp[Sem.run_bind,run_underlying hu,hf,wG,asAgg,h2]
 ·exact h.elim
theorem rL{E:Env}{w:World}{ao:Operand→Value}:∀(l:List Operand),(∀x∈l,ah E w (ev x) (ao x))→aw E w (l.map ev) (l.map ao)
 | [],_=>by simp[aw]
 | x::l,h=>by
  simp only[List.map_cons,aw]
  exact⟨_,_,rfl,h x (by simp),rL l (fun y hy=>h y (by simp[hy]))⟩
theorem GZ{f:FuncId}{caps:Array Operand}(ho:o.op= .makeFunc (.func f) #[] caps){K:KF}(h:K True (.clo f (caps.toList.map ev)) []):∃Φ v us,K Φ v us∧aW P o ev hg Φ v us:=by
 refine⟨_,_,_,h,aW.pure fun p E H w ao hr hh ay=> ?_⟩
 refine⟨.func (.func f) #[] (caps.map ao),?_,?_⟩
 ·unfold execOp
  simp[ho,Instr.makeFunc,Sem.run_pure]
 ·rw[ah]
  refine⟨caps.toList.map ao,by congr 1;apply Array.ext';simp,rL _ (fun x hx=>ay x (by rw[ho];exact hx))⟩
/-! builtins of values -/
def wY(tb:TypeId→Option TI)(T:TypeId)(x:AV)(K:KF):Prop:=match tb T with
 | some ti=>match ti.u with
  | .slice _=>match x with
   | .own r ver _ _ n=>gG hg r ver fun Φ=>K Φ (.val (.int .i64 (n:Int))) []
   | .pl r ver _ _ n=>gG hg r ver fun Φ=>K Φ (.val (.int .i64 (n:Int))) []
   | .bs _ l=>K True (.val (.int .i64 (l.length:Int))) []
   | .sl _ _ _ _ l=>K True (.val (.int .i64 (l.length:Int))) []
   | .val (.slice none 0 0)=>K True (.val (.int .i64 0)) []
   | _=>False
  | .string=>match x with
   | .val (.string s)=>K True (.val (.int .i64 (s.size:Int))) []
   | _=>False
  | _=>False
 | none=>False
theorem G0{tb:TypeId→Option TI}(aA:cj P tb){T:TypeId}{x:Operand}(ho:o.op= .call {callee:= .builtin .len,args:= #[x],argTypes:= #[T]}){K:KF}(h:wY (hg:=hg) tb T (ev x) K):∃Φ v us,K Φ v us∧aW P o ev hg Φ v us:=by
 have jt:∀{E:Env}{w:World}{ao:Operand→Value},(∀x∈aQ o.op,ah E w (ev x) (ao x))→ah E w (ev x) (ao x):=by
  intro E w ao ay;exact ay x (by rw[ho];simp[aQ])
 have hex:∀{w:World}{ao:Operand→Value}{v:Value},(Builtin.len_ #[T] o.type #[ao x]).run P w= .ok v w→(execOp ao o).run P w= .ok (.value v) w:=by
  intro w ao v hr
  unfold execOp
  simp only[ho,resolve,invoke,builtin,Sem.run_bind,Sem.run_pure,Result.andThen_ok,List.map_toArray,List.map_cons,List.map_nil,hr]
 unfold wY at h
 split at h
 rotate_left
 ·exact h.elim
 rename_i ti bF
 have hT:=(aA T ti bF).u
 split at h
 ·rename_i E0 hu
  rw[hu] at hT
  have bB:P.underlying T=some (.slice E0):=hT
  have dn:∀(w:World)(a:Option Addr)(n c:Nat),(Builtin.len_ #[T] o.type #[.slice a n c]).run P w= .ok (.int .i64 n) w:=by
   intro w a n c
   simp[Builtin.len_,Sem.run_bind,run_underlying bB,goInt]
  split at h
  ·rename_i r ver sz off n hx
   obtain⟨Φ,h,hc⟩:=iK h
   refine⟨_,_,_,h,aW.pure fun p E H w ao hr hh ay=> ?_⟩
   have hv:=jt ay
   rw[hx,ah] at hv
   obtain⟨a,c,hv,_⟩:=hv.2 (hc p E H w hr hh)
   exact⟨_,hex (by rw[hv];exact dn w a n c),by rw[ah]⟩
  ·rename_i r ver i off n hx
   obtain⟨Φ,h,hc⟩:=iK h
   refine⟨_,_,_,h,aW.pure fun p E H w ao hr hh ay=> ?_⟩
   have hv:=jt ay
   rw[hx,ah] at hv
   obtain⟨a,c,hv,_⟩:=hv.2 (hc p E H w hr hh)
   exact⟨_,hex (by rw[hv];exact dn w a n c),by rw[ah]⟩
  ·rename_i z l hx
   refine⟨_,_,_,h,aW.pure fun p E H w ao hr hh ay=> ?_⟩
   have hv:=jt ay
   rw[hx,ah] at hv
   obtain⟨a,n,c,hv,rfl,_⟩:=hv
   exact⟨_,hex (by rw[hv];exact dn w a _ c),by rw[ah]⟩
  ·rename_i z sz α f d l hx
   refine⟨_,_,_,h,aW.pure fun p E H w ao hr hh ay=> ?_⟩
   have hv:=jt ay
   rw[hx,ah] at hv
   obtain⟨a,n,c,hv,rfl,_⟩:=hv
   exact⟨_,hex (by rw[hv];exact dn w a _ c),by rw[ah]⟩
  ·rename_i hx
   refine⟨_,_,_,h,aW.pure fun p E H w ao hr hh ay=> ?_⟩
   have hv:=jt ay
   rw[hx] at hv
   exact⟨_,hex (by rw[aY hv];exact dn w none 0 0),by rw[ah];rfl⟩
  ·exact h.elim
 ·rename_i hu
  rw[hu] at hT
  have bB:P.underlying T=some .string:=hT
  split at h
  ·rename_i s hx
   refine⟨_,_,_,h,aW.pure fun p E H w ao hr hh ay=> ?_⟩
   have hv:=jt ay
   rw[hx] at hv
   refine⟨_,hex (v:= .int .i64 s.size) ?_,by rw[ah]⟩
   rw[aY hv]
   simp[Builtin.len_,Sem.run_bind,run_underlying bB,goInt]
  ·exact h.elim
 ·exact h.elim
def ua(mx:Bool)(x y:AV)(K:KF):Prop:=match x with
 | .val (.int k a)=>match y with
  | .val (.int _ b)=>K True (.val (.int k (if mx then max a b else min a b))) []
  | _=>False
 | _=>False
end
end Go.Proofs.YtpbpiehcchannaaGreatDoor

/-! Abstract values: operations that write or make memory. Conditions: what 'TIok' says of the types. -/
namespace Go.Proofs.YtpbpiehcchannaaGreatDoor
set_option linter.unusedVariables false
set_option linter.unusedSimpArgs false
open Go.RowKit
section
variable {P:Program} {o:Oper} {ev:Operand→AV} {hg:Nat→Option U}
def eH:AV→List AV
 | .agg l=>l
 | x=>[x]
def rM(hg:Nat→Option U):AV→Prop
 | .val v=>v.oneCell'=true
 | .bs _ _=>True
 | .sl _ _ _ _ _=>True
 | .cp _ _ _=>True
 | .clo _ _=>True
 | .own r ver _ _ _=>gG hg r ver fun Φ=>Φ
 | .ref r ver _ _ _=>gG hg r ver fun Φ=>Φ
 | .pl r ver _ _ _=>gG hg r ver fun Φ=>Φ
 | _=>False
def jJ(hg:Nat→Option U):List AV→Prop
 | []=>True
 | x::xs=>rM hg x∧jJ hg xs
theorem A9{x:AV}(h:rM hg x){E:Env}{H:List U}{w:World}(hr:HR E w H)(hh:∀(r:Nat)(e:U),hg r=some e→H[r]? =some e){v:Value}(hv:ah E w x v):v.oneCell'=true:=by
 cases x<;>simp only[rM] at h<;>rw[ah] at hv
 case val u=>rw[hv];exact h
 case bs z l=>obtain⟨a,n,c,rfl,_⟩:=hv;rfl
 case sl=>obtain⟨a,n,c,rfl,_⟩:=hv;rfl
 case own r ver sz off n=>
  obtain⟨Φ,h1,h2⟩:=iK h
  obtain⟨a,c,rfl,_⟩:=hv.2 (h2 h1 E H w hr hh);rfl
 case ref r ver sz i j=>
  obtain⟨Φ,h1,h2⟩:=iK h
  rw[hv.2 (h2 h1 E H w hr hh)];rfl
 case pl r ver i off n=>
  obtain⟨Φ,h1,h2⟩:=iK h
  obtain⟨a,c,rfl,_⟩:=hv.2 (h2 h1 E H w hr hh);rfl
 case cp=>obtain⟨b,o',cs,rfl,_⟩:=hv;rfl
 case clo=>obtain⟨cs,rfl,_⟩:=hv;rfl
theorem ub:∀{xs:List AV}(h:jJ hg xs){E:Env}{H:List U}{w:World}(hr:HR E w H)(hh:∀(r:Nat)(e:U),hg r=some e→H[r]? =some e){vs:List Value}(hv:aw E w xs vs),∀u∈vs,u.oneCell'=true
 | [],_,E,H,w,hr,hh,vs,hv=>by rw[aw] at hv;subst hv;simp
 | x::xs,h,E,H,w,hr,hh,vs,hv=>by
  rw[aw] at hv
  obtain⟨v,cQ,rfl,h1,h2⟩:=hv
  intro u hu
  rcases List.mem_cons.1 hu with rfl | hu
  ·exact A9 h.1 hr hh h1
  ·exact ub h.2 hr hh h2 u hu
theorem uc {x : AV} (h : jJ hg (eH x)) {E : Env} {H : List U} {w : World} (hr : HR E w H) (hh : ∀ (r : Nat) (e : U), hg r = some e → H[r]? = some e) {v : Value} (hv : ah E w x v) :
    aw E w (eH x) v.cells.toList∧∀u∈v.cells.toList,u.oneCell'=true:=by
 have key:aw E w (eH x) v.cells.toList:=by
  cases x with
  | agg l=>
   rw[ah] at hv
   obtain⟨cs,rfl,h1⟩:=hv
   simpa [eH,Value.cells] using h1
  | _=>
   have h1:v.oneCell'=true:=A9 h.1 hr hh hv
   have:v.cells.toList=[v]:=by cases v<;>simp_all [Value.oneCell',Value.cells]
   rw[this]
   simp only[eH,aw]
   exact⟨v,[],rfl,hv,rfl⟩
 exact⟨key,ub h hr hh key⟩
theorem lA{E:Env}{w:World}:∀{xs ys:List AV}{us vs:List Value},aw E w xs us→aw E w ys vs→aw E w (xs++ys) (us++vs)
 | [],ys,us,vs,h,h'=>by rw[aw] at h;subst h;exact h'
 | x::xs,ys,us,vs,h,h'=>by
  rw[aw] at h
  obtain⟨v,cQ,rfl,h1,h2⟩:=h
  simp only[List.cons_append,aw]
  exact⟨v,_,rfl,h1,lA h2 h'⟩
def jK(l:List AV)(j:Nat)(new:List AV):List AV:=fZ l j++(new++fj l (j+new.length))
theorem Ba{E:Env}{w:World}{xs new:List AV}{us vs:List Value}(j:Nat)(h:aw E w xs us)(h':aw E w new vs):aw E w (jK xs j new) (us.take j++(vs++us.drop (j+vs.length))):=by
 unfold jK
 rw[pQ,pP,(eR h').1]
 exact lA (wB j h) (lA h' (rH _ h))
theorem Out.store {E : Env} {w : World} {H : List U} (hr : HR E w H) {r : Nat} {e : U} (he : H[r]? = some e) {i j : Nat} {ys new : List AV} {vs : List Value} (cS : e.bd.at i = some ys) {bd' : Bd} (cw : bd'.sz = e.bd.sz) (cH : bd'.count = e.bd.count)
    (b9:∀i' eT,bd'.at i'=some eT→(i'=i∧eT=jK ys j new)∨(i'≠i∧e.bd.at i'=some eT)) (dY:aw E w new vs) (fy:j+new.length≤e.bd.sz) (fA:bd'.nh=false):
    Out E E w (w.setCells (E.ρ r) (i*e.bd.sz+j) vs) H [(r,⟨e.ver,bd'⟩)]:=by
 have hc:e.bd.iu=true:=by cases hb:e.bd<;>simp[Bd.iu]<;>simp[hb,Bd.at] at cS
 have hl:=Bd.pN hc
 have bo:¬E.abs r:=fun q=>by have:=hr.abs r e he q;have:=Bd.mf cS;omega
 obtain⟨cur,T,lo,hi,h1,h2,h3,h4⟩:=(hr.bM r e he ⟨hl,bo⟩).aO hc
 obtain⟨et,hs⟩:=pY (E.ρ r) vs (i*e.bd.sz+j) w
 have dp:new.length=vs.length:=(eR dY).1
 have ai:=Bd.mf cS
 have rN:i*e.bd.sz+j+vs.length≤cur.size:=by
  have h5:(i+1)*e.bd.sz≤e.bd.count*e.bd.sz:=Nat.mul_le_mul_right _ ai
  rw[Nat.add_mul,Nat.one_mul] at h5
  omega
 have dK:=rO w (E.ρ r) T (lo,hi) vs (i*e.bd.sz+j) cur h1 rN
 have iM:E.set r (E.ρ r) e.ver=E:=Env.tQ E rfl (hr.ver r e he).symm bo
 have:=Out.one (w':=w.setCells (E.ρ r) (i*e.bd.sz+j) vs) (bd':=bd') (b:=E.ρ r) (v':=e.ver) hr he (Bd.oh fA) (.inl ⟨rfl,rfl,bo⟩) (.inl ⟨rfl,hl,bo⟩) et.os et.tape et.output (by omega) (fun k hk aF=>et.block k hk aF) ?_ ?_
 ·rw[iM] at this;exact this
 ·intro pZ T2 wZ h6
  rw[h1] at h6
  cases h6
  exact⟨_,_,_,dK,by simp;omega⟩
 ·intro X
  rw[iM] at X⊢
  refine⟨fun _=>⟨_,_,_,_,dK,?_,?_,?_⟩,fun _ _ _ e=>absurd e (Bd.og fA)⟩
  ·rcases h2 with h | h
   ·exact .inl h
   ·refine .inr ?_
    simp only[List.size_toArray,List.length_append,List.length_take,List.length_drop,Array.length_toList]
    omega
  ·rw[cw,cH]
   simp only[List.size_toArray,List.length_append,List.length_take,List.length_drop,Array.length_toList]
   omega
  ·intro i' eT gI
   rw[cw]
   have fK:cur.toList.length=cur.size:=by simp
   rcases b9 i' eT gI with⟨rfl,rfl⟩ | ⟨aF,rP⟩
   ·obtain⟨cs,h5,h6,h7⟩:=h4 i' ys cS
    refine⟨cs.take j++(vs++cs.drop (j+vs.length)),?_,fw X _ _ (Ba j h6 dY),?_⟩
    ·simp only[List.length_append,List.length_take,List.length_drop];omega
    ·intro k u hu
     simp only[List.getElem?_toArray,List.getElem?_append,List.getElem?_take,List.getElem?_drop,List.length_take,List.length_append,Array.length_toList] at hu⊢
     by_cases G1:k<j
     ·have a1:k<min j cs.length:=by omega
      have a2:i'*e.bd.sz+k<min (i'*e.bd.sz+j) cur.size:=by omega
      have a3:i'*e.bd.sz+k<min (i'*e.bd.sz+j) cur.size+vs.length:=by omega
      have a4:i'*e.bd.sz+k<i'*e.bd.sz+j:=by omega
      simp only[a1,if_true,G1] at hu
      simp only[a2,a3,a4,if_true]
      have:=h7 k u hu
      simpa using this
     ·by_cases G2:k<j+vs.length
      ·have a1:¬k<min j cs.length:=by omega
       have a2:¬i'*e.bd.sz+k<min (i'*e.bd.sz+j) cur.size:=by omega
       have a3:i'*e.bd.sz+k<min (i'*e.bd.sz+j) cur.size+vs.length:=by omega
       have a5:k - min j cs.length<vs.length:=by omega
       have a6:i'*e.bd.sz+k - min (i'*e.bd.sz+j) cur.size=k - min j cs.length:=by omega
       simp only[a1,a5,if_true,if_false] at hu
       simp only[a2,a3,if_true,if_false,a6]
       exact hu
      ·have a1:¬k<min j cs.length:=by omega
       have a3:¬i'*e.bd.sz+k<min (i'*e.bd.sz+j) cur.size+vs.length:=by omega
       have a5:¬k - min j cs.length<vs.length:=by omega
       simp only[a1,a5,if_false] at hu
       simp only[a3,if_false]
       have e1:j+vs.length+(k - min j cs.length - vs.length)=k:=by omega
       rw[e1] at hu
       have e2:i'*e.bd.sz+j+vs.length+(i'*e.bd.sz+k - (min (i'*e.bd.sz+j) cur.size+vs.length))=i'*e.bd.sz+k:=by omega
       rw[e2]
       have:=h7 k u hu
       simpa using this
   ·obtain⟨cs,h5,h6,h7⟩:=h4 i' eT rP
    refine⟨cs,h5,fw X _ _ h6,fun k u hu=> ?_⟩
    have hk:k<e.bd.sz:=by have:=(List.getElem?_eq_some_iff.1 hu).1;omega
    have nr:=Bd.mf rP
    have hb:i'*e.bd.sz+k<cur.size:=by
     have h5:(i'+1)*e.bd.sz≤e.bd.count*e.bd.sz:=Nat.mul_le_mul_right _ nr
     rw[Nat.add_mul,Nat.one_mul] at h5
     omega
    have ml:i'*e.bd.sz+k<i*e.bd.sz+j∨i*e.bd.sz+j+vs.length≤i'*e.bd.sz+k:=by
     rcases Nat.lt_or_gt_of_ne aF with h | h
     ·left
      have h5:(i'+1)*e.bd.sz≤i*e.bd.sz:=Nat.mul_le_mul_right _ h
      rw[Nat.add_mul,Nat.one_mul] at h5
      omega
     ·right
      have h5:(i+1)*e.bd.sz≤i'*e.bd.sz:=Nat.mul_le_mul_right _ h
      rw[Nat.add_mul,Nat.one_mul] at h5
      omega
    have:=h7 k u hu
    simp only[List.getElem?_toArray,List.getElem?_append,List.getElem?_take,List.getElem?_drop,List.length_take,List.length_append,Array.length_toList]
    rcases ml with h | h
    ·have a2:i'*e.bd.sz+k<min (i*e.bd.sz+j) cur.size:=by omega
     have a3:i'*e.bd.sz+k<min (i*e.bd.sz+j) cur.size+vs.length:=by omega
     simp only[a2,a3,h,if_true]
     simpa using this
    ·have a3:¬i'*e.bd.sz+k<min (i*e.bd.sz+j) cur.size+vs.length:=by omega
     simp only[a3,if_false]
     have e2:i*e.bd.sz+j+vs.length+(i'*e.bd.sz+k - (min (i*e.bd.sz+j) cur.size+vs.length))=i'*e.bd.sz+k:=by omega
     rw[e2]
     simpa using this
/-! store -/
def w5(tb:TypeId→Option TI)(hg:Nat→Option U)(T:TypeId)(x y:AV)(K:KF):Prop:=match tb T with
 | none=>False
 | some ti=>match x with
  | .ref r ver sz i j=>match hg r with
   | none=>False
   | some e=>match e.bd with
    | .bytes l=>match y with
     | .val (.int .u8 n)=>K (ver=e.ver∧sz=1∧j=0∧i<l.length∧(0≤n∧n≤255)∧ti.sz=1) .any [(r,⟨e.ver,.bytes (l.set i (UInt8.ofNat n.toNat))⟩)]
     | _=>False
    | .row sz' f d l=>∃y',K (ver=e.ver∧sz=sz'∧i<l.length∧jJ hg (eH y)∧(eH y).length=ti.sz∧j+ti.sz≤sz'∧f y'=jK (f (l.getD i d)) j (eH y)) .any [(r,⟨e.ver,.row sz' f d (l.set i y')⟩)]
    | .obj l=>K (ver=e.ver∧i=0∧jJ hg (eH y)∧(eH y).length=ti.sz∧j+ti.sz≤l.length) .any [(r,⟨e.ver,.obj (jK l j (eH y))⟩)]
    | .dead=>False
    | .lp .. =>False
    | .aB _=>False
  | .gU r ver i k=>match hg r with
   | none=>False
   | some e=>match e.bd with
    | .aB ls=>match y with
     | .val (.int .u8 n)=>K (ver=e.ver∧i<ls.length∧k< (ls.getD i []).length∧(0≤n∧n≤255)∧ti.sz=1) .any [(r,⟨e.ver,.aB (ls.set i ((ls.getD i []).set k (UInt8.ofNat n.toNat)))⟩)]
     | _=>False
    | _=>False
  | _=>False
theorem Out.aB {E : Env} {w w' : World} {H : List U} (hr : HR E w H) {r v : Nat} {ls rQ : List (List UInt8)} (he : H[r]? = some ⟨v, .aB ls⟩) {i b : Nat} (hb : E.pl r i = some b) (os : w'.os = w.os) (tape : w'.tape = w.tape) (output : w'.output = w.output) (size : w.heap.size ≤ w'.heap.size)
    (aO:∀k,k<w.heap.size→k≠b→w'.heap[k]? =w.heap[k]?) (sz:∀cur T fz,w.heap[b]? =some (.cells cur T fz)→∃cR T' dX,w'.heap[b]? =some (.cells cR T' dX)∧cur.size≤cR.size)
    (hp:oi (E.pl r) w' rQ):Out E E w w' H [(r,⟨v,.aB rQ⟩)]:=by
 have mh:r<H.length:=(List.getElem?_eq_some_iff.1 he).1
 have hB:aE E r ⟨v,.aB ls⟩ b:= .inr ⟨rfl,i,hb⟩
 have gr:∀(k:Nat) cur T fz,w.heap[k]? =some (.cells cur T fz)→∃cR T' dX,w'.heap[k]? =some (.cells cR T' dX)∧cur.size≤cR.size:=fun k cur T fz hk=>by
  by_cases h:k=b
  ·subst h;exact sz cur T fz hk
  ·exact⟨cur,T,fz,by rw[aO k (Array.getElem?_eq_some_iff.1 hk).1 h];exact hk,Nat.le_refl _⟩
 have X:Ext E E w w':=⟨fun _=>Nat.le_refl _,fun _ _=>rfl,fun _ _=>Iff.rfl,fun _ _ h=>h,fun z c hz=>aO c (hr.cJ z c hz) (fun q=>hr.dj r _ b he hB z (q▸hz)),gr,fun _ _ _ _ h=>h⟩
 have aL:∀(q:Nat)(e:U),(aK H [(r,⟨v,.aB rQ⟩)])[q]? =some e→q=r∧e=⟨v,.aB rQ⟩∨q≠r∧H[q]? =some e:=by
  intro q e h
  simp only[aK,bI] at h
  by_cases iJ:q=r
  ·subst iJ;rw[List.getElem?_set_self mh] at h;exact .inl ⟨rfl,(Option.some.inj h).symm⟩
  ·rw[List.getElem?_set_ne (Ne.symm iJ)] at h;exact .inr ⟨iJ,h⟩
 have aF:∀(q:Nat)(e:U),q≠r→H[q]? =some e→¬aE E q e b:=fun q e h1 h2 h3=>h1 (hr.inj q r e _ b h2 he h3 hB)
 have hblk:∀(q:Nat)(e:U)(c:Nat),(aK H [(r,⟨v,.aB rQ⟩)])[q]? =some e→aE E q e c→∃e0,H[q]? =some e0∧aE E q e0 c:=by
  intro q e c h h2
  rcases aL q e h with⟨rfl,rfl⟩ | ⟨_,h1⟩
  ·rcases h2 with⟨h2,_⟩ | ⟨_,h2⟩
   ·cases h2.1
   ·exact⟨_,he,.inr ⟨rfl,h2⟩⟩
  ·exact⟨e,h1,h2⟩
 refine⟨X,⟨?_,?_,?_,?_,fun z c h=>Nat.lt_of_lt_of_le (hr.cJ z c h) size,?_,?_,hr.gl.ext X,?_⟩,os,tape,output,size,fun _ _ h=> .inl h,gr,?_,?_⟩
 ·intro q e h
  rcases aL q e h with⟨rfl,rfl⟩ | ⟨_,h2⟩
  ·exact hr.ver q ⟨v,.aB ls⟩ he
  ·exact hr.ver q e h2
 ·intro q e h hl
  rcases aL q e h with⟨rfl,rfl⟩ | ⟨h1,h2⟩
  ·cases hl.1
  ·exact(hr.bM q e h2 hl).ext X (aO _ (hr.lt h2 hl) (fun k=>aF q e h1 h2 (k▸aE.of hl)))
 ·intro q e h ha
  rcases aL q e h with⟨rfl,rfl⟩ | ⟨h1,h2⟩
  ·have:=hr.abs q _ he ha;cases this
  ·exact hr.abs q e h2 ha
 ·intro q q' e e' c h h' hl bu
  obtain⟨e0,h1,h2⟩:=hblk q e c h hl
  obtain⟨e1,h3,h4⟩:=hblk q' e' c h' bu
  exact hr.inj q q' e0 e1 c h1 h3 h2 h4
 ·intro q e c h hl
  obtain⟨e0,h1,h2⟩:=hblk q e c h hl
  exact hr.dj q e0 c h1 h2
 ·intro q h
  simp only[aK,bI,List.length_set] at h
  exact hr.top q h
 ·intro q u ms h
  rcases aL q _ h with⟨rfl,h1⟩ | ⟨h1,h2⟩
  ·cases h1;exact hp
  ·exact(hr.aB q u ms h2).lx fun k c hc=>aO c ((hr.aB q u ms h2).lt hc) (fun q0=>aF q _ h1 h2 (q0▸.inr ⟨rfl,k,hc⟩))
 ·intro k hk h
  refine aO k hk fun q=> ?_
  subst q
  exact h r _ he hB (by simp)
 ·intro q e c h hl
  obtain⟨e0,h1,h2⟩:=hblk q e c h hl
  exact .inr ⟨q,e0,h1,h2,.inl rfl⟩
theorem G3 {T : TypeId} {ti : TI} (ht : aU P T ti) {E : Env} {w : World} {H : List U} (hr : HR E w H) {r : Nat} {e : U} (he : H[r]? = some e) {i j : Nat} {ys new : List AV} (cS : e.bd.at i = some ys) {v : Value}
    (dY:aw E w new v.cells.toList) (h1:∀u∈v.cells.toList,u.oneCell'=true) (hn:new.length=ti.sz) (fy:j+ti.sz≤e.bd.sz):
    (storeVar T ⟨E.ρ r,i*e.bd.sz+j,none⟩ v).run P w= .ok () (w.setCells (E.ρ r) (i*e.bd.sz+j) v.cells.toList):=by
 have hc:e.bd.iu=true:=by cases hb:e.bd<;>simp[Bd.iu]<;>simp[hb,Bd.at] at cS
 have hl:=Bd.pN hc
 have bo:¬E.abs r:=fun q=>by have:=hr.abs r e he q;have:=Bd.mf cS;omega
 obtain⟨cur,T',lo,hi,h2,h3,h4,h5⟩:=(hr.bM r e he ⟨hl,bo⟩).aO hc
 have dp:=(eR dY).1
 have ai:=Bd.mf cS
 have rN:i*e.bd.sz+j+ti.sz≤cur.size:=by
  have h5:(i+1)*e.bd.sz≤e.bd.count*e.bd.sz:=Nat.mul_le_mul_right _ ai
  rw[Nat.add_mul,Nat.one_mul] at h5
  omega
 exact Bb (n:=ti.sz) (fun w=>ht.sizeOf w) h2 (h3.imp Nat.le_of_eq id) rfl (by omega) rN h1
theorem G4{tb:TypeId→Option TI}(aA:cj P tb){T:TypeId}{x y:Operand}(ho:o.op= .store T x y){K:KF}(h:w5 tb hg T (ev x) (ev y) K):∃Φ v us,K Φ v us∧aW P o ev hg Φ v us:=by
 unfold w5 at h
 split at h
 ·exact h.elim
 rename_i ti bF
 have ht:=aA T ti bF
 split at h
 rotate_left
 ·rename_i r ver i k hx
  split at h
  ·exact h.elim
  rename_i e he
  split at h
  rotate_left
  ·exact h.elim
  rename_i ls hb
  split at h
  rotate_left
  ·exact h.elim
  rename_i n hy
  refine⟨_,_,_,h,fun p E H w ao hr hh ay=> ?_⟩
  obtain⟨p1,p2,p3,p4,p5⟩:=p
  have gJ:=ay x (by rw[ho];simp[aQ])
  have jL:=ay y (by rw[ho];simp[aQ])
  rw[hx,ah] at gJ
  rw[hy] at jL
  have hH:H[r]? =some ⟨e.ver,.aB ls⟩:=by rw[hh r e he,←hb]
  obtain⟨b,h1,cZ⟩:=gJ.2 (p1.trans (hr.ver r _ hH).symm)
  have fJ:ls[i]? =some (ls.getD i []):=by simp[List.getD,p2]
  have hP:=hr.aB r _ ls hH
  obtain⟨cur,T0,lo,hi,g1,g2,g3,g4⟩:=hP.aO i _ b fJ h1
  have e1:((UInt8.ofNat n.toNat).toNat:Int)=n:=by simp;omega
  have bt:(storeVar T ⟨b,k,none⟩ (.int .u8 n)).run P w= .ok () (w.setCells b k [.int .u8 n]):=
   Bb (n:=ti.sz) (fun w=>ht.sizeOf w) g1 (g2.imp Nat.le_of_eq id) rfl (by rw[p5];rfl) (by omega) (by simp[Value.oneCell'])
  obtain⟨et,hs⟩:=pY b [Value.int .u8 n] k w
  have dK:=rO w b T0 (lo,hi) [Value.int .u8 n] k cur g1 (by simp;omega)
  refine⟨undef,_,E,.inr ⟨Bc ho cZ (aY jL) bt,rfl⟩,by rw[ah];trivial,Out.aB hr hH h1 et.os et.tape et.output (by omega) (fun k' hk aF=>et.block k' hk aF) (fun pZ T2 wZ h6=> ?_) ?_⟩
  ·rw[g1] at h6;cases h6
   exact⟨_,_,_,dK,by simp;omega⟩
  ·refine⟨fun i' l' h7 h8=> ?_,fun i' l' b' h7 h8=> ?_,hP.inj,fun i' b' h7=>by rw[List.length_set];exact hP.top i' b' h7⟩
   ·rw[List.getElem?_set] at h7
    split at h7
    ·rename_i oq;subst oq;exact⟨b,h1⟩
    ·exact hP.has i' l' h7 h8
   ·rw[List.getElem?_set] at h7
    split at h7
    ·rename_i oq;subst oq
     cases h7
     rw[h1] at h8;cases h8
     refine⟨_,_,_,_,dK,?_,?_,fun j x hx=> ?_⟩
     ·refine g2.imp id fun q=> ?_
      simp only[List.size_toArray,List.length_append,List.length_take,List.length_drop,Array.length_toList,List.length_cons,List.length_nil];omega
     ·simp only[List.size_toArray,List.length_append,List.length_take,List.length_drop,Array.length_toList,List.length_cons,List.length_nil,List.length_set];omega
     ·have iN:j< (ls.getD i []).length:=by have:=(List.getElem?_eq_some_iff.1 hx).1;simpa using this
      have e9:∀(u:Value),(cur.toList.take k++[u]++cur.toList.drop (k+1))=cur.toList.set k u:=fun u=>by
       rw[List.set_eq_take_append_cons_drop]
       rw[if_pos (by simp;omega)]
       simp
      rw[List.getElem?_toArray]
      simp only[List.length_cons,List.length_nil,Nat.zero_add]
      rw[e9,List.getElem?_set]
      rw[List.getElem?_set] at hx
      by_cases w6:k=j
      ·subst w6
       rw[if_pos rfl,if_pos p3] at hx
       cases hx
       rw[if_pos rfl,if_pos (by simp;omega)]
       simp only[bv];rw[e1]
      ·rw[if_neg w6] at hx
       rw[if_neg w6]
       have:=g4 j x hx
       simpa using this
    ·rename_i oq
     have aF:b'≠b:=fun q=>oq (hP.inj i i' b h1 (q▸h8))
     obtain⟨cR,T',lB,bG,g5,g6⟩:=hP.aO i' l' b' h7 h8
     exact⟨cR,T',lB,bG,by rw[et.block b' (hP.lt h8) aF];exact g5,g6⟩
 ·exact h.elim
 rename_i r ver sz i j hx
 split at h
 ·exact h.elim
 rename_i e he
 have fin : ∀ {Φ : Prop} {bd' : Bd}, bd'.nh = false → K Φ .any [(r, ⟨e.ver, bd'⟩)] → (Φ → ver = e.ver ∧ i * sz = i * e.bd.sz ∧ ∃ ys, e.bd.at i = some ys ∧ bd'.sz = e.bd.sz ∧ bd'.count = e.bd.count ∧ j + ti.sz ≤ e.bd.sz ∧ ∃ new, new.length = ti.sz ∧
     (∀(E:Env)(H:List U)(w:World)(v:Value),HR E w H→(∀(r:Nat)(e:U),hg r=some e→H[r]? =some e)→ah E w (ev y) v→aw E w new v.cells.toList∧∀u∈v.cells.toList,u.oneCell'=true)∧
     (∀i' eT,bd'.at i'=some eT→(i'=i∧eT=jK ys j new)∨(i'≠i∧e.bd.at i'=some eT)))→∃Φ v us,K Φ v us∧aW P o ev hg Φ v us:=by
  intro Φ bd' qa hK dF
  refine⟨Φ,_,_,hK,fun p E H w ao hr hh ay=> ?_⟩
  obtain⟨p1,p2,ys,cS,cw,cH,fy,new,fA,dY,b9⟩:=dF p
  have gJ:=ay x (by rw[ho];simp[aQ])
  have jL:=ay y (by rw[ho];simp[aQ])
  obtain⟨Be,ot⟩:=dY E H w _ hr hh jL
  rw[hx,ah] at gJ
  have hH:=hh r e he
  have cZ:=gJ.2 (p1.trans (hr.ver r e hH).symm)
  rw[p2] at cZ
  have bt:=G3 ht hr hH cS Be ot fA fy
  refine⟨undef,_,E,.inr ⟨Bc ho cZ rfl bt,rfl⟩,by rw[ah];trivial,Out.store hr hH cS cw cH b9 Be (by omega) qa⟩
 have jM:e=⟨e.ver,e.bd⟩:=rfl
 split at h
 ·rename_i l hb
  split at h
  rotate_left
  ·exact h.elim
  rename_i n hy
  refine fin rfl h fun p=> ?_
  obtain⟨p1,p2,p3,p4,p5,p6⟩:=p
  refine⟨p1,by rw[hb,p2];rfl,[.val (bv (l.getD i 0))],?_,by rw[hb];rfl,by rw[hb];simp[Bd.count],by rw[hb,p3,p6];simp[Bd.sz],[.val (.int .u8 n)],by rw[p6];rfl,?_,?_⟩
  ·rw[hb];simp[Bd.at,p4,List.getD]
  ·intro E H w v hr hh hv
   rw[hy] at hv
   rw[aY hv]
   refine⟨?_,by simp[Value.cells,Value.oneCell']⟩
   simp only[Value.cells,aw,ah]
   exact⟨_,_,rfl,rfl,rfl⟩
  ·intro i' eT h'
   rw[hb]
   simp only[Bd.at,List.getElem?_set] at h'⊢
   by_cases hi:i=i'
   ·subst hi
    left
    simp only[if_true,p4,Option.map_some,Option.some.injEq] at h'
    refine⟨rfl,?_⟩
    rw[←h',p3]
    have e1:((UInt8.ofNat n.toNat).toNat:Int)=n:=by simp;omega
    simp[jK,fZ,fj,bv];omega
   ·right
    simp only[hi,if_false] at h'
    exact⟨fun e=>hi e.symm,h'⟩
 ·rename_i sz' α f d l hb
  obtain⟨y',h⟩:=h
  refine fin rfl h fun p=> ?_
  obtain⟨p1,p2,p3,p4,p5,p6,p7⟩:=p
  refine⟨p1,by rw[hb,p2];rfl,f (l.getD i d),?_,by rw[hb];rfl,by rw[hb];simp[Bd.count],by rw[hb];exact p6,eH (ev y),p5,?_,?_⟩
  ·rw[hb];simp[Bd.at,p3,List.getD]
  ·exact fun E H w v hr hh hv=>uc p4 hr hh hv
  ·intro i' eT h'
   rw[hb]
   simp only[Bd.at,List.getElem?_set] at h'⊢
   by_cases hi:i=i'
   ·subst hi
    left
    simp only[if_true,p3,Option.map_some,Option.some.injEq] at h'
    exact⟨rfl,by rw[←h',p7]⟩
   ·right
    simp only[hi,if_false] at h'
    exact⟨fun e=>hi e.symm,h'⟩
 ·rename_i l hb
  refine fin rfl h fun p=> ?_
  obtain⟨p1,p2,p4,p5,p6⟩:=p
  have hlen:(jK l j (eH (ev y))).length=l.length:=by
   unfold jK
   rw[pQ,pP]
   simp only[List.length_append,List.length_take,List.length_drop];omega
  refine⟨p1,by rw[p2];simp,l,by rw[hb,p2];rfl,by rw[hb];exact hlen,by rw[hb];rfl,by rw[hb];exact p6,eH (ev y),p5,fun E H w v hr hh hv=>uc p4 hr hh hv,?_⟩
  intro i' eT h'
  rw[hb]
  simp only[Bd.at] at h'⊢
  split at h'
  ·rename_i hi
   left
   exact⟨by rw[hi,p2],(Option.some.inj h').symm⟩
  ·cases h'
 ·exact h.elim
 ·exact h.elim
 ·exact h.elim

/-! new rows -/
theorem Out.new {E : Env} {w : World} {H : List U} (hr : HR E w H) {r : Nat} {e : U} (he : H[r]? = some e) {bd' : Bd} {cs : List Value} {T : TypeId} (cH : bd'.count * bd'.sz ≤ cs.length)
    (cS:∀i ys,bd'.at i=some ys→∃us,us.length=bd'.sz∧aw E w ys us∧∀j u,us[j]? =some u→cs[i*bd'.sz+j]? =some u) (fA:bd'.nh=false:=by rfl):
    Out E (E.set r w.heap.size (e.ver+1)) w (w.alloc (.cells cs.toArray T)) H [(r,⟨e.ver+1,bd'⟩)]:=by
 refine Out.one hr he (Bd.oh fA) (.inr (by omega)) (.inr (Nat.le_refl _)) rfl rfl rfl (by simp) (fun k hk _=>Below.heap_alloc _ _ _ hk) (fun cur T fz h=> ?_) (fun X=>⟨fun _=>⟨_,T,0,0,heap_alloc_new w _,.inl rfl,by simpa using cH,fun i ys hy=> ?_⟩,fun _ _ _ e=>absurd e (Bd.og fA)⟩)
 ·have:=(Array.getElem?_eq_some_iff.1 h).1;omega
 ·obtain⟨us,h1,h2,h3⟩:=cS i ys hy
  exact⟨us,h1,fw X _ _ h2,fun j u hu=>by simpa using h3 j u hu⟩
def rR(hg:Nat→Option U)(p:Nat)(o:Oper)(cells:List AV)(K:KF):Prop:=match o.dst with
 | none=>False
 | some d=>match hg (p+d) with
  | none=>False
  | some e=>K True (.ref (p+d) (e.ver+1) cells.length 0 0) [(p+d,⟨e.ver+1,.obj cells⟩)]
theorem G5 {p : Nat} {cells : List AV} {K : KF} (h : rR hg p o cells K) (bt : ∀ (E : Env) (H : List U) (w : World) (ao : Operand → Value), HR E w H → (∀ (r : Nat) (e : U), hg r = some e → H[r]? = some e) → (∀ x ∈ aQ o.op, ah E w (ev x) (ao x)) →
    ∃cs T,aw E w cells cs∧(execOp ao o).run P w= .ok (.value (.pointer (some ⟨w.heap.size,0,none⟩))) (w.alloc (.cells cs.toArray T))):∃Φ v us,K Φ v us∧aW P o ev hg Φ v us:=by
 unfold rR at h
 split at h
 ·exact h.elim
 rename_i d hd
 split at h
 ·exact h.elim
 rename_i e he
 refine⟨_,_,_,h,fun p' E H w ao hr hh ay=> ?_⟩
 obtain⟨cs,T,h1,h2⟩:=bt E H w ao hr hh ay
 have hl:=(eR h1).1
 refine⟨_,_,_,.inl h2,?_,Out.new (T:=T) (cs:=cs) hr (hh _ _ he) (by simp[Bd.count,Bd.sz,hl]) (fun i ys hy=> ?_)⟩
 ·rw[ah,Env.jE,Env.ke]
  exact⟨Nat.le_refl _,fun _=>by simp⟩
 ·simp only[Bd.at] at hy
  split at hy
  ·rename_i hi
   subst hi
   cases hy
   exact⟨cs,hl.symm,h1,fun j u hu=>by simpa using hu⟩
  ·cases hy
def w7(tb:TypeId→Option TI)(hg:Nat→Option U)(p:Nat)(o:Oper)(T:TypeId)(K:KF):Prop:=match tb T with
 | none=>False
 | some ti=>rR hg p o (ti.zero.map .val) K
theorem mm{E:Env}{w:World}:∀(l:List Value),aw E w (l.map .val) l
 | []=>by simp[aw]
 | v::l=>by simp only[List.map_cons,aw,ah];exact⟨v,l,rfl,rfl,mm l⟩
theorem G6{tb:TypeId→Option TI}(aA:cj P tb){p:Nat}{T:TypeId}(ho:o.op= .alloc T){K:KF}(h:w7 tb hg p o T K):∃Φ v us,K Φ v us∧aW P o ev hg Φ v us:=by
 unfold w7 at h
 split at h
 ·exact h.elim
 rename_i ti bF
 obtain⟨z,hz,dA⟩:=(aA T ti bF).info
 obtain⟨i,hi,h1,h2,h3⟩:=info_parts hz
 refine G5 h fun E H w ao hr hh ay=>⟨ti.zero,T,mm _,?_⟩
 have e:z.cells=ti.zero.toArray:=by rw[←dA]
 unfold execOp
 simp[ho,Instr.alloc,zeroValue,typeInfo,hi,h1,newVar,newRow,e]
def w8(hg:Nat→Option U)(p:Nat)(o:Oper)(x:AV)(K:KF):Prop:=rR hg p o (eH x) fun Φ v us=>K (Φ∧jJ hg (eH x)) v us
theorem G7{p:Nat}{T:TypeId}{x:Operand}(ho:o.op= .box T x){K:KF}(h:w8 hg p o (ev x) K):∃Φ v us,K Φ v us∧aW P o ev hg Φ v us:=by
 unfold w8 rR at h
 split at h
 ·exact h.elim
 rename_i d hd
 split at h
 ·exact h.elim
 rename_i e he
 refine⟨_,_,_,h,fun p' E H w ao hr hh ay=> ?_⟩
 have hv:=ay x (by rw[ho];simp[aQ])
 obtain⟨h1,_⟩:=uc p'.2 hr hh hv
 have hl:=(eR h1).1
 refine⟨.pointer (some ⟨w.heap.size,0,none⟩),w.alloc (.cells (ao x).cells T),E.set (p+d) w.heap.size (e.ver+1),.inl ?_,?_,?_⟩
 ·unfold execOp
  simp[ho,Instr.box,newVar,newRow]
 ·rw[ah,Env.jE,Env.ke]
  exact⟨Nat.le_refl _,fun _=>by simp⟩
 ·have:=Out.new (T:=T) (cs:=(ao x).cells.toList) (bd':= .obj (eH (ev x))) hr (hh _ _ he) (by simp[Bd.count,Bd.sz,hl]) (fun i ys hy=>by
    simp only[Bd.at] at hy
    split at hy
    ·rename_i hi
     subst hi
     cases hy
     exact⟨_,hl.symm,h1,fun j u hu=>by simpa using hu⟩
    ·cases hy)
  simpa using this
end
end Go.Proofs.YtpbpiehcchannaaGreatDoor

/-! Abstract values: append, make, literals. Conditions: what 'TIok' says of the types. -/
namespace Go.Proofs.YtpbpiehcchannaaGreatDoor
set_option linter.unusedVariables false
set_option linter.unusedSimpArgs false
open Go.RowKit
section
variable {P:Program} {o:Oper} {ev:Operand→AV} {hg:Nat→Option U}
def Env.gn(E:Env)(r v:Nat):Env:={E with ver:=fun k=>if k=r then v else E.ver k,abs:=fun k=>if k=r then True else E.abs k}
theorem Out.Bf{E:Env}{w:World}{H:List U}{r0 v':Nat}{e0:U}{bd':Bd}(hr:HR E w H)(h0:H[r0]? =some e0)(hv:e0.ver<v')(hc:bd'.count=0):Out E (E.gn r0 v') w w H [(r0,⟨v',bd'⟩)]:=by
 have gh:=hr.ver r0 e0 h0
 have mh:r0<H.length:=(List.getElem?_eq_some_iff.1 h0).1
 have hP:bd'.jq=false:=by cases bd'<;>first | rfl | (simp[Bd.count] at hc)
 have v1:(E.gn r0 v').ver r0=v':=by simp[Env.gn]
 have v2:∀r,r≠r0→(E.gn r0 v').ver r=E.ver r:=fun r h=>by simp[Env.gn,h]
 have a1:(E.gn r0 v').abs r0:=by simp[Env.gn]
 have a2:∀r,r≠r0→((E.gn r0 v').abs r↔E.abs r):=fun r h=>by simp[Env.gn,h]
 have X:Ext E (E.gn r0 v') w w:=by
  refine⟨fun r=> ?_,fun r e=>rfl,fun r e=> ?_,fun z c h=>h,fun z c hz=>rfl,fun r cur T fz hc=>⟨cur,T,fz,hc,Nat.le_refl _⟩,fun _ _ _ _ h=>h⟩
  ·by_cases h:r=r0
   ·subst h;omega
   ·rw[v2 r h];exact Nat.le_refl _
  ·by_cases h:r=r0
   ·subst h;omega
   ·exact a2 r h
 have aL:∀(r:Nat)(e:U),(aK H [(r0,⟨v',bd'⟩)])[r]? =some e→r=r0∧e=⟨v',bd'⟩∨r≠r0∧H[r]? =some e:=by
  intro r e h
  simp only[aK,bI] at h
  by_cases iJ:r=r0
  ·subst iJ;rw[List.getElem?_set_self mh] at h;exact .inl ⟨rfl,(Option.some.inj h).symm⟩
  ·rw[List.getElem?_set_ne (Ne.symm iJ)] at h;exact .inr ⟨iJ,h⟩
 have cn:∀(r:Nat)(e:U),(aK H [(r0,⟨v',bd'⟩)])[r]? =some e→bH (E.gn r0 v') r e→H[r]? =some e∧bH E r e:=by
  intro r e h hl
  rcases aL r e h with⟨rfl,rfl⟩ | ⟨h1,h2⟩
  ·exact absurd a1 hl.2
  ·exact⟨h2,hl.1,fun q=>hl.2 ((a2 r h1).2 q)⟩
 have hblk:∀(r:Nat)(e:U)(b:Nat),(aK H [(r0,⟨v',bd'⟩)])[r]? =some e→aE (E.gn r0 v') r e b→H[r]? =some e∧aE E r e b:=by
  intro r e b h hb
  rcases hb with⟨hl,h3⟩ | ⟨h3,h4⟩
  ·obtain⟨h1,h2⟩:=cn r e h hl
   exact⟨h1,.inl ⟨h2,h3⟩⟩
  ·rcases aL r e h with⟨rfl,rfl⟩ | ⟨h1,h2⟩
   ·exact absurd (hP.symm.trans h3) (by simp)
   ·exact⟨h2,.inr ⟨h3,h4⟩⟩
 refine⟨X,⟨?_,?_,?_,?_,hr.cJ,?_,?_,hr.gl.ext X,?_⟩,rfl,rfl,rfl,Nat.le_refl _,fun _ _ h=> .inl h,fun _ cur T fz h=>⟨cur,T,fz,h,Nat.le_refl _⟩,fun _ _ _=>rfl,?_⟩
 ·intro r e h
  rcases aL r e h with⟨rfl,rfl⟩ | ⟨h1,h2⟩
  ·exact v1
  ·rw[v2 r h1];exact hr.ver r e h2
 ·intro r e h hl
  obtain⟨h1,h2⟩:=cn r e h hl
  exact(hr.bM r e h1 h2).ext X rfl
 ·intro r e h ha
  rcases aL r e h with⟨rfl,rfl⟩ | ⟨h1,h2⟩
  ·exact hc
  ·exact hr.abs r e h2 ((a2 r h1).1 ha)
 ·intro r r' e e' b h h' hl bu
  obtain⟨h1,h2⟩:=hblk r e b h hl
  obtain⟨h3,h4⟩:=hblk r' e' b h' bu
  exact hr.inj r r' e e' b h1 h3 h2 h4
 ·intro r e b h hl z
  obtain⟨h1,h2⟩:=hblk r e b h hl
  exact hr.dj r e b h1 h2 z
 ·intro r h
  simp only[aK,bI,List.length_set] at h
  have aF:r≠r0:=by omega
  rw[v2 r aF,a2 r aF]
  exact hr.top r h
 ·intro r v ls h
  rcases aL r _ h with⟨rfl,h1⟩ | ⟨h1,h2⟩
  ·cases h1;cases hP
  ·exact hr.aB r v ls h2
 ·intro r e b h hl
  obtain⟨h1,h2⟩:=hblk r e b h hl
  exact .inr ⟨r,e,h1,h2,.inl rfl⟩
structure Ap(P:Program)(T Tx ty:TypeId)(El:TypeId)(i:TypeInfo)(z xv:Value)(m:Nat)(news:List Value)(w:World):Prop where
 newsLen:news.length=m*i.size
 idle:m=0→∀a,(Builtin.append_ #[T,Tx] ty #[.slice a 0 0,xv]).run P w= .ok (.slice a 0 0) w
 room:∀b off dN fL,dN+m≤fL→(∀j,j<news.length→(w.cell? ⟨b,off+dN*i.size+j,none⟩).isSome=true)→(∀j,j<news.length→w.frozen? ⟨b,off+dN*i.size+j,none⟩=false)→
  (Builtin.append_ #[T,Tx] ty #[.slice (some ⟨b,off,none⟩) dN fL,xv]).run P w= .ok (.slice (some ⟨b,off,none⟩) (dN+m) fL) (w.setCells b (off+dN*i.size) news)
 grow:∀(base:Option Addr) dN fL(rS:List Value),(Builtin.firstCells i.size dN (.slice base dN fL)).run P w.drew= .ok rS.toArray w.drew→dN≤fL→fL<dN+m→((dN+m:Nat):Int)≤9223372036854775807→
  Builtin.nextslicecap (dN+m) fL*i.bytes≤281474976710656→m*i.bytes≤281474976710656→
  (Builtin.append_ #[T, Tx] ty #[.slice base dN fL, xv]).run P w = .ok (.slice (some ⟨w.heap.size, 0, none⟩) (dN + m) (grownCap w (dN + m) fL El))
      (w.drew.alloc (.cells ((rS++news).toArray++Builtin.zeroCells z.cells (grownCap w (dN+m) fL El - (dN+m))) El))
theorem Ap.G8{T Tx ty El:TypeId}{i:TypeInfo}{z xv:Value}{m:Nat}{news:List Value}{w:World}(hT:P.underlying T=some (.slice El))(hi:P.info? El=some i)(hz:i.zero=some z)(hs:Src P i.size Tx xv m news w):Ap P T Tx ty El i z xv m news w:=by
 refine⟨hs.newsLen,fun h0 a=> ?_,fun b off dN fL kf hc hf=>run_append_room_src w T Tx ty El i hT hi b off dN fL xv m news hs kf hc hf,fun base dN fL rS hold hle hg rT fy _=>run_append_grow_src w T Tx ty El i z hT hi hz base dN fL rS hold xv m news hs hg rT fy⟩
 subst h0
 have hn:news=[]:=List.eq_nil_of_length_eq_zero (by simpa using hs.newsLen)
 subst hn
 rcases hs.kind with⟨e',hk⟩ | hk<;>
  (cases a with
   | none=>simp[Builtin.append_,run_underlying hT,run_underlying hk,Go.sizeOf,typeInfo,hi,hs.len,hs.cells]
   | some a=>simp[Builtin.append_,run_underlying hT,run_underlying hk,Go.sizeOf,typeInfo,hi,hs.len,hs.cells,storeCells])
theorem Bg(u:Value)(n:Nat):Builtin.zeroCells #[u] n=(List.replicate n u).toArray:=by
 apply Array.ext'
 simp only[Builtin.zeroCells,List.size_toArray,List.length_cons,List.length_nil,Nat.zero_add,Nat.mul_one,Nat.mod_one,Array.toList_map,Array.toList_range]
 apply List.ext_getElem?
 intro i
 simp only[List.getElem?_map,List.getElem?_replicate]
 by_cases h:i<n
 ·simp[h,List.getElem?_range h]
 ·simp[h]
theorem Ap.G9 {T Tx ty El : TypeId} {i : TypeInfo} {z u : Value} {k kn : IntKind} {m : Nat} {w : World} (hT : P.underlying T = some (.slice El)) (fB : P.underlying Tx = some (.int kn)) (hi : P.info? El = some i) (hz : i.zero = some z) (dA : z.cells = #[u]) (hu : u.oneCell' = true) (cw : i.size = 1)
    (hm:m≤9223372036854775807) (hb:m*i.bytes≤281474976710656):Ap P T Tx ty El i z (.int k m) m (List.replicate m u) w:=by
 have hw:IntKind.i64.wrap (m:Int)=m:=by rw[IntKind.wrap_i64];omega
 have Bh:¬((m:Int)<0):=by omega
 have Bi:¬(281474976710656< (m:Int)*(i.bytes:Int)):=by rw[←Int.natCast_mul];omega
 refine⟨by simp[cw],fun h0 a=> ?_,fun b off dN fL kf hc hf=> ?_,fun base dN fL rS hold hle hg rT fy _=> ?_⟩
 ·subst h0
  have lC:IntKind.i64.wrap 0=0:=hw
  cases a with
   | none=>simp[Builtin.append_,run_underlying hT,run_underlying fB,Go.sizeOf,typeInfo,hi,asInt,asIntOf,lC]
   | some a=>simp[Builtin.append_,run_underlying hT,run_underlying fB,Go.sizeOf,typeInfo,hi,asInt,asIntOf,lC,storeCells]
 ·have dL:=run_storeCells_cells (P:=P) b (off+dN*i.size) (List.replicate m u) 0 w (by simpa using hc) (by simpa using hf) (fun v hv=>by rw[List.eq_of_mem_replicate hv];exact hu)
  simp only[Nat.add_zero] at dL
  by_cases h0:m=0
  ·subst h0
   have lC:IntKind.i64.wrap 0=0:=hw
   have Ha:dN≤fL:=kf
   simp only[List.replicate_zero] at dL⊢
   simp[Builtin.append_,run_underlying hT,run_underlying fB,Go.sizeOf,typeInfo,hi,asInt,asIntOf,lC,Ha,Addr.add_lit,dL]
  ·have rI:¬(m*i.size=0):=by rw[cw];omega
   simp[Builtin.append_,run_underlying hT,run_underlying fB,Go.sizeOf,typeInfo,zeroValue,hi,hz,asInt,asIntOf,hw,Bh,Bi,kf,rI,dA,Bg,Addr.add_lit,dL]
 ·have h0:m≠0:=by omega
  have rI:¬(m*i.size=0):=by rw[cw];omega
  have hn:¬(dN+m≤fL):=by omega
  have Bj:¬(9223372036854775807< ((dN:Int)+(m:Int))):=by omega
  have Hc:¬(281474976710656<Builtin.nextslicecap (dN+m) fL*i.bytes):=by omega
  simp[Builtin.append_,run_underlying hT,run_underlying fB,Go.sizeOf,typeInfo,zeroValue,hi,hz,asInt,asIntOf,hw,Bh,Bi,hn,Bj,Hc,rI,Question.forced,hold,newRow,grownCap,dA,Bg]
  congr 2
  apply Array.ext'
  simp[List.append_assoc,List.replicate_append_replicate]
theorem ud {T Tx El ty : TypeId} {ei : TI} (hT : P.underlying T = some (.slice El)) (hE : aU P El ei) {E : Env} {w : World} {H : List U} (hr : HR E w H) {r : Nat} {e : U} (he : H[r]? = some e) {ver sz n m : Nat} {v xv : Value}
    (hv:ah E w (.own r ver sz 0 n) v) (gh:ver=E.ver r) {news:List Value} {i:TypeInfo} {z:Value} (hi:P.info? El=some i) (kg:i.zero=some z) (kM:i.size=ei.sz) (jN:i.bytes=ei.bytes) (dA:z.cells.toList=ei.zero) (hs:Ap P T Tx ty El i z xv m news w) {bd':Bd} (hn:e.bd.count=n) (cw:e.bd.sz=sz) (PO:ei.sz=sz) (hc:e.bd.iu=true) (Bk:bd'.count=n+m) (ou:bd'.sz=sz) (ov:bd'.iu=true)
    (cS:∀i ys,bd'.at i=some ys→(i<n∧e.bd.at i=some ys)∨(n≤i∧∃us,us.length=sz∧aw E w ys us∧∀j u,us[j]? =some u→news[(i - n)*sz+j]? =some u)) (jO:∀i,i<n→∃ys,e.bd.at i=some ys)
    (Hd:(n+m)*ei.bytes≤140737488355328) (rT:n+m≤maxLen):
    ∃cv w' E',(Builtin.append_ #[T,Tx] ty #[v,xv]).run P w= .ok cv w'∧ah E' w' (.own r (e.ver+1) sz 0 (n+m)) cv∧Out E E' w w' H [(r,⟨e.ver+1,bd'⟩)]:=by
 have hl:=Bd.pN hc
 have qa:=Bd.rD ov
 rw[ah] at hv
 obtain⟨a,c,rfl,h1,h2,h3,h4⟩:=hv.2 gh
 have nw:i.size=sz:=by omega
 have fA:=hs.newsLen
 rw[nw] at fA
 have w9:z.cells.size=sz:=by have:=hE.nj;rw[←dA] at this;simp at this;omega
 have Bj:n+m≤9223372036854775807:=by simpa [maxLen] using rT
 have rU:=hr.ver r e he
 -- the old cells
 have hold : ∃ xs : List Value, xs.length = n * sz ∧ (∀ w2 : World, (∀ k : Nat, w2.heap[k]? = w.heap[k]?) → (Builtin.firstCells sz n (.slice a n c)).run P w2 = .ok xs.toArray w2) ∧
     ∀i' ys,e.bd.at i'=some ys→∃us,us.length=sz∧aw E w ys us∧∀j u,us[j]? =some u→xs[i'*sz+j]? =some u:=by
  by_cases gH:c=0
  ·have xa:n=0:=by omega
   subst xa
   refine⟨[],by simp,fun w2 _=> ?_,fun i' ys hy=> ?_⟩
   ·cases a with
    | none=>exact run_firstCells_none w2 sz 0 0 c
    | some ad=>exact run_firstCells_some w2 sz 0 ad 0 c [] (by simp) (fun j u h=>by simp at h)
   ·have:=Bd.mf hy;omega
  ·obtain⟨bo,rfl,cur,T',fz,h5,h6⟩:=h4.resolve_left gH
   obtain⟨pZ,T2,lo,bG,h7,h8,h9,jo⟩:=(hr.bM r e he ⟨hl,bo⟩).aO hc
   rw[h5] at h7
   cases h7
   rw[hn,cw] at h9
   refine⟨cur.toList.take (n*sz),by simp;omega,fun w2 gp=> ?_,fun i' ys hy=> ?_⟩
   ·refine run_firstCells_some w2 sz n ⟨E.ρ r,0*sz,none⟩ n c _ (by simp;omega) (fun j u hu=> ?_)
    rw[Addr.add_lit,Nat.zero_mul,Nat.zero_add,cell_of_row w2 (E.ρ r) j cur T' (lo,bG) ((gp _).trans h5)]
    rw[List.getElem?_take] at hu
    split at hu
    ·simpa using hu
    ·cases hu
   ·obtain⟨us,mn,iO,rV⟩:=jo i' ys hy
    refine⟨us,by omega,iO,fun j u hu=> ?_⟩
    have hj:j<sz:=by have:=(List.getElem?_eq_some_iff.1 hu).1;omega
    have ai:=Bd.mf hy
    rw[hn] at ai
    have:(i'+1)*sz≤n*sz:=Nat.mul_le_mul_right _ ai
    rw[Nat.add_mul,Nat.one_mul] at this
    rw[List.getElem?_take,if_pos (by omega)]
    have:=rV j u hu
    rw[cw] at this
    simpa using this
 obtain⟨xs,ny,Bl,He⟩:=hold
 -- what the new row's cells are
 have eI:∀i' ys,bd'.at i'=some ys→∃us,us.length=sz∧aw E w ys us∧∀j u,us[j]? =some u→(xs++news)[i'*sz+j]? =some u:=by
  intro i' ys hy
  rcases cS i' ys hy with⟨h5,h6⟩ | ⟨h5,us,h6,h7,h8⟩
  ·obtain⟨us,h7,h8,h9⟩:=He i' ys h6
   refine⟨us,h7,h8,fun j u hu=> ?_⟩
   have:=h9 j u hu
   rw[List.getElem?_append_left (List.getElem?_eq_some_iff.1 this).1];exact this
  ·refine⟨us,h6,h7,fun j u hu=> ?_⟩
   have e1:i'*sz=n*sz+(i' - n)*sz:=by rw[←Nat.add_mul];congr 1;omega
   rw[List.getElem?_append_right (by omega),ny,show i'*sz+j - n*sz=(i' - n)*sz+j by omega]
   exact h8 j u hu
 have hlen:(xs++news).length=(n+m)*sz:=by rw[List.length_append,ny,fA,Nat.add_mul]
 by_cases kf:n+m≤c
 ·by_cases gH:c=0
  ·-- nothing is appended to nothing
   have xa:n=0:=by omega
   have wU:m=0:=by omega
   subst xa;subst wU
   subst gH
   refine⟨.slice a 0 0,w,E.gn r (e.ver+1),hs.idle rfl a,?_,Out.Bf hr he (by omega) (by omega)⟩
   ·rw[ah]
    exact⟨by simp[Env.gn],fun _=>⟨a,0,rfl,by omega,Nat.zero_le _,fun _=>rfl,.inl rfl⟩⟩
  ·obtain⟨bo,rfl,cur,T',fz,h5,h6⟩:=h4.resolve_left gH
   clear h4 hv
   obtain⟨pZ,T2,lo,bG,h7,h8,h9,jo⟩:=(hr.bM r e he ⟨hl,bo⟩).aO hc
   rw[h5] at h7
   cases h7
   rw[Nat.zero_add] at h6
   have fy:n*sz+news.length≤cur.size:=by
    rw[fA,←Nat.add_mul];exact Nat.le_trans (Nat.mul_le_mul_right _ kf) h6
   have bt:=hs.room (E.ρ r) 0 n c kf
    (fun j hj=>by rw[nw,cell_of_row w _ _ cur T' (lo,bG) h5];simp;omega)
    (fun j hj=>by rw[nw];simp[World.frozen?,h5];intro h;rcases h8 with h' | h'<;>omega)
   rw[nw,Nat.zero_add] at bt
   rw[Nat.zero_mul]
   obtain⟨et,kh⟩:=pY (E.ρ r) news (n*sz) w
   have dK:=rO w (E.ρ r) T' (lo,bG) news (n*sz) cur h5 fy
   refine⟨_,_,E.set r (E.ρ r) (e.ver+1),bt,?_,Out.one hr he (Bd.oh qa) (.inr (by omega)) (.inl ⟨rfl,hl,bo⟩) et.os et.tape et.output (by omega) (fun k hk aF=>et.block k hk aF) ?_ ?_⟩
   ·rw[ah,Env.jE,Env.ke]
    refine⟨Nat.le_refl _,fun _=>⟨_,c,rfl,kf,h2,(fun h=>by cases h),.inr ⟨Env.np _ _ _ _,by rw[Nat.zero_mul],_,_,_,dK,?_⟩⟩⟩
    rw[Nat.zero_add]
    simp only[List.size_toArray,List.length_append,List.length_take,List.length_drop,Array.length_toList]
    omega
   ·intro Bm T3 Bn mn
    rw[h5] at mn
    cases mn
    exact⟨_,_,_,dK,by simp;omega⟩
   ·intro X
    refine⟨fun _=>⟨_,_,_,_,dK,?_,?_,fun i' ys hy=> ?_⟩,fun _ _ _ e=>absurd e (Bd.og qa)⟩
    ·rcases h8 with h | h
     ·exact .inl h
     ·refine .inr ?_
      simp only[List.size_toArray,List.length_append,List.length_take,List.length_drop,Array.length_toList]
      omega
    ·rw[Bk,ou,Nat.add_mul,←fA]
     simp only[List.size_toArray,List.length_append,List.length_take,List.length_drop,Array.length_toList]
     omega
    ·obtain⟨us,iO,rV,xb⟩:=eI i' ys hy
     rw[ou]
     refine⟨us,iO,fw X _ _ rV,fun j u hu=> ?_⟩
     have rW:=xb j u hu
     have ai:=(List.getElem?_eq_some_iff.1 rW).1
     have rX:(cur.toList.take (n*sz)++news).length=(xs++news).length:=by simp[ny];omega
     -- the first cells are the old ones
     have eU:cur.toList.take (n*sz)=xs:=by
      have Bo:=Bl w (fun _=>rfl)
      rw[run_firstCells_some w sz n ⟨E.ρ r,0*sz,none⟩ n c (cur.toList.take (n*sz)) (by simp;omega) (fun j u hu=>by
       rw[Addr.add_lit,Nat.zero_mul,Nat.zero_add,cell_of_row w (E.ρ r) j cur T' (lo,bG) h5]
       rw[List.getElem?_take] at hu
       split at hu
       ·simpa using hu
       ·cases hu)] at Bo
      have Hf:=(Result.ok.inj Bo).1
      exact congrArg Array.toList Hf |> fun h=>by simpa using h
     rw[List.getElem?_toArray,eU,List.getElem?_append_left ai]
     exact rW
 ·clear h4 hv
  have Hg:=Bl w.drew (fun _=>rfl)
  have bt:=hs.grow a n c xs (by rw[nw];exact Hg) h1 (by omega) (by omega) (growslice_fits (by omega) (by rw[jN];exact Hd)) (by rw[jN];have:=Nat.mul_le_mul_right ei.bytes (Nat.le_add_left m n);omega)
  have iP:=grownCap_ge w (n+m) c El
  have xc:=grownCap_le_maxLen w (n+m) c El rT
  refine⟨_,_,E.set r w.heap.size (e.ver+1),bt,?_,Out.one hr he (Bd.oh qa) (.inr (by omega)) (.inr (Nat.le_refl _)) rfl rfl rfl (by simp) (fun k hk _=>Below.heap_alloc w.drew _ k hk) (fun Bm T3 Bn mn=> ?_) (fun X=>⟨fun _=>⟨_,_,0,0,heap_alloc_new w.drew _,.inl rfl,?_,fun i' ys hy=> ?_⟩,fun _ _ _ e=>absurd e (Bd.og qa)⟩)⟩
  ·rw[ah,Env.jE,Env.ke]
   refine⟨Nat.le_refl _,fun _=>⟨_,_,rfl,iP,xc,(fun h=>by cases h),.inr ⟨Env.np _ _ _ _,by rw[Nat.zero_mul],_,_,_,heap_alloc_new w.drew _,?_⟩⟩⟩
   rw[Array.size_append,size_zeroCells,List.size_toArray,hlen,w9,←Nat.add_mul]
   exact Nat.mul_le_mul_right _ (by omega)
  ·have:=(Array.getElem?_eq_some_iff.1 mn).1;omega
  ·rw[Bk,ou,Array.size_append,List.size_toArray,hlen];omega
  ·obtain⟨us,iO,rV,xb⟩:=eI i' ys hy
   rw[ou]
   refine⟨us,iO,fw X _ _ rV,fun j u hu=> ?_⟩
   have rW:=xb j u hu
   have ai:=(List.getElem?_eq_some_iff.1 rW).1
   rw[Array.getElem?_append_left (by simpa using ai)]
   simpa using rW
/-! what is appended -/
theorem Bp {E : Env} {w : World} {sz b : Nat} : ∀ (els : List (List AV)) (o : Nat), (∀ i ys, els[i]? = some ys → ∃ cs : List Value, cs.length = sz ∧ aw E w ys cs ∧ (∀ u ∈ cs, u.oneCell' = true) ∧ ∀ j u, cs[j]? = some u → w.cell? ⟨b, o + i * sz + j, none⟩ = some u) →
    ∃news:List Value,news.length=els.length*sz∧(∀j u,news[j]? =some u→w.cell? ⟨b,o+j,none⟩=some u)∧(∀u∈news,u.oneCell'=true)∧
     ∀i ys,els[i]? =some ys→∃cs:List Value,cs.length=sz∧aw E w ys cs∧∀j u,cs[j]? =some u→news[i*sz+j]? =some u
 | [],o,_=>⟨[],by simp,by simp,by simp,by simp⟩
 | y::els,o,h=>by
  obtain⟨cs,h1,h2,h3,h4⟩:=h 0 y rfl
  obtain⟨news,g1,g2,g3,g4⟩:=Bp els (o+sz) (fun i ys hy=>by
   obtain⟨cs,k1,k2,k3,k4⟩:=h (i+1) ys (by simpa using hy)
   refine⟨cs,k1,k2,k3,fun j u hu=> ?_⟩
   have:=k4 j u hu
   rw[show o+(i+1)*sz+j=o+sz+i*sz+j by rw[Nat.add_mul,Nat.one_mul];omega] at this
   exact this)
  refine⟨cs++news,?_,?_,?_,?_⟩
  ·simp only[List.length_append,List.length_cons,h1,g1,Nat.add_mul,Nat.one_mul];omega
  ·intro j u hu
   rw[List.getElem?_append] at hu
   split at hu
   ·have:=h4 j u hu;simpa using this
   ·have:=g2 _ u hu
    rw[h1] at this
    rw[show o+j=o+sz+(j - sz) by omega];exact this
  ·intro u hu
   rcases List.mem_append.1 hu with h | h
   ·exact h3 u h
   ·exact g3 u h
  ·intro i ys hy
   cases i with
   | zero=>
    simp only[List.getElem?_cons_zero,Option.some.injEq] at hy
    subst hy
    exact⟨cs,h1,h2,fun j u hu=>by rw[Nat.zero_mul,Nat.zero_add,List.getElem?_append_left (List.getElem?_eq_some_iff.1 hu).1];exact hu⟩
   | succ i=>
    obtain⟨gX,k1,k2,k3⟩:=g4 i ys (by simpa using hy)
    refine⟨gX,k1,k2,fun j u hu=> ?_⟩
    rw[Nat.add_mul,Nat.one_mul,List.getElem?_append_right (by omega),h1,show i*sz+sz+j - sz=i*sz+j by omega]
    exact k3 j u hu
def dq(l:List UInt8):List (List AV):=l.map fun b=>[.val (bv b)]
def xd(tb:TypeId→Option TI)(hg:Nat→Option U)(Tx:TypeId)(x:AV)(K:Prop→Nat→List (List AV)→Prop):Prop:=match tb Tx with
 | none=>False
 | some xi=>match xi.u with
  | .slice _=>match x with
   | .bs z m=>K True 1 (dq m)
   | .sl z sz f d l=>K (∀x∈l,jJ hg (f x)) sz (l.map f)
   | .val (.slice none 0 0)=>K True 0 []
   | .own r ver sz off n=>match hg r with
    | none=>False
    | some e=>match e.bd with
     | .bytes l=>K (ver=e.ver∧sz=1∧off+n≤l.length) 1 (dq ((l.drop off).take n))
     | .row sz' f d l=>K (ver=e.ver∧sz=sz'∧off+n≤l.length∧∀x∈(l.drop off).take n,jJ hg (f x)) sz' (((l.drop off).take n).map f)
     | _=>False
   | .pl r ver i off n=>match hg r with
    | none=>False
    | some e=>match e.bd with
     | .aB ls=>K (ver=e.ver∧i<ls.length∧off+n≤(ls.getD i []).length) 1 (dq (((ls.getD i []).drop off).take n))
     | _=>False
   | _=>False
  | .string=>match x with
   | .val (.string s)=>K True 1 (dq s.data.toList)
   | _=>False
  | _=>False
theorem Hh(hg:Nat→Option U)(l:List UInt8):∀ys∈dq l,jJ hg ys:=by
 intro ys hy
 obtain⟨b,_,rfl⟩:=List.mem_map.1 hy
 exact⟨rfl,trivial⟩
theorem Hi {tb : TypeId → Option TI} (aA : cj P tb) {Tx : TypeId} {x : AV} {K : Prop → Nat → List (List AV) → Prop} (h : xd tb hg Tx x K) :
    ∃Ψ sz els,K Ψ sz els∧(Ψ→∀(E:Env)(H:List U)(w:World)(v:Value),HR E w H→(∀(r:Nat)(e:U),hg r=some e→H[r]? =some e)→ah E w x v→
     ∀sz',(els=[]∨sz'=sz)→∃news,Src P sz' Tx v els.length news w∧∀i ys,els[i]? =some ys→∃us:List Value,us.length=sz'∧aw E w ys us∧∀j u,us[j]? =some u→news[i*sz'+j]? =some u):=by
 unfold xd at h
 split at h
 ·exact h.elim
 rename_i xi xe
 have hT:=(aA Tx xi xe).u
 -- from cells that are there
 have fin : ∀ {E : Env} {H : List U} {w : World} {E0 : TypeId} {a : Option Addr} {c : Nat} {els : List (List AV)} {sz' : Nat}, P.underlying Tx = some (.slice E0) → els.length ≤ c → (a = none → c = 0) →
     (els=[]∨∃b o,a=some ⟨b,o,none⟩∧∀i ys,els[i]? =some ys→∃cs:List Value,cs.length=sz'∧aw E w ys cs∧(∀u∈cs,u.oneCell'=true)∧∀j u,cs[j]? =some u→w.cell? ⟨b,o+i*sz'+j,none⟩=some u)→
     ∃news,Src P sz' Tx (.slice a els.length c) els.length news w∧∀i ys,els[i]? =some ys→∃us:List Value,us.length=sz'∧aw E w ys us∧∀j u,us[j]? =some u→news[i*sz'+j]? =some u:=by
  intro E H w E0 a c els sz' fB hle PQ ow
  rcases ow with rfl | ⟨b,o,rfl,hc⟩
  ·refine⟨[],?_,by simp⟩
   cases a with
   | none=>exact Src.ofNil w fB c
   | some ad=>exact Src.ofSlice w fB ad 0 c [] (by simp) (by simp) (by simp)
  ·obtain⟨news,g1,g2,g3,g4⟩:=Bp els o hc
   exact⟨news,Src.ofSlice w fB ⟨b,o,none⟩ els.length c news g1 (fun j u hu=>by rw[Addr.add_lit];exact g2 j u hu) g3,g4⟩
 split at h
 ·rename_i E0 hu
  rw[hu] at hT
  have fB:P.underlying Tx=some (.slice E0):=hT
  split at h
  ·rename_i z m
   refine⟨_,_,_,h,fun p E H w v hr hh hv sz' cw=> ?_⟩
   rw[ah] at hv
   obtain⟨a,n,c,rfl,rfl,h1,h2,h3,h4⟩:=hv
   have e:(dq m).length=m.length:=by simp[dq]
   have:=fin (E:=E) (H:=H) (w:=w) (a:=a) (c:=c) (els:=dq m) (sz':=sz') fB (by omega) h3 (by
    by_cases hm:m=[]
    ·left;simp[hm,dq]
    ·right
     have kj:sz'=1:=cw.resolve_left (by simpa [dq] using hm)
     subst kj
     obtain⟨x0,mo⟩:∃x0,m[0]? =some x0:=by cases m with | nil=>exact absurd rfl hm | cons a l=>exact⟨a,rfl⟩
     obtain⟨b,o,rfl,_,_⟩:=h4 0 x0 mo
     refine⟨b,o,rfl,fun i ys hy=> ?_⟩
     simp only[dq,List.getElem?_map,Option.map_eq_some_iff] at hy
     obtain⟨x,hx,rfl⟩:=hy
     obtain⟨b',o',hb,_,cW⟩:=h4 i x hx
     cases hb
     refine⟨[bv x],rfl,by simp only[aw,ah];exact⟨_,_,rfl,rfl,rfl⟩,by simp[bv,Value.oneCell'],fun j u hu=> ?_⟩
     cases j with
     | zero=>simp at hu;subst hu;rw[Nat.mul_one,Nat.add_zero];exact cW
     | succ j=>simp at hu)
   rw[e] at this
   rw[e];exact this
  ·rename_i z sz α f d l
   refine⟨_,_,_,h,fun p E H w v hr hh hv sz' cw=> ?_⟩
   rw[ah] at hv
   obtain⟨a,n,c,rfl,rfl,h1,h2,h3,h4⟩:=hv
   have e:(l.map f).length=l.length:=by simp
   have:=fin (E:=E) (H:=H) (w:=w) (a:=a) (c:=c) (els:=l.map f) (sz':=sz') fB (by omega) h3 (by
    by_cases hm:l=[]
    ·left;simp[hm]
    ·right
     have kj:sz'=sz:=cw.resolve_left (by simpa using hm)
     subst kj
     obtain⟨x0,mo⟩:∃x0,l[0]? =some x0:=by cases l with | nil=>exact absurd rfl hm | cons a l=>exact⟨a,rfl⟩
     obtain⟨b,o,Hj,rfl,_⟩:=h4 0 x0 mo
     refine⟨b,o,rfl,fun i ys hy=> ?_⟩
     simp only[List.getElem?_map,Option.map_eq_some_iff] at hy
     obtain⟨x,hx,rfl⟩:=hy
     obtain⟨b',o',cs,hb,_,hl,cq,cW⟩:=h4 i x hx
     cases hb
     exact⟨cs,hl,cq,ub (p x (List.mem_of_getElem? hx)) hr hh cq,cW⟩)
   rw[e] at this
   rw[e];exact this
  ·refine⟨_,_,_,h,fun p E H w v hr hh hv sz' cw=> ?_⟩
   rw[aY hv]
   exact⟨[],Src.ofNil w fB 0,by simp⟩
  ·rename_i r ver sz off n
   split at h
   ·exact h.elim
   rename_i e he
   -- the row's cells
   have row : ∀ {E : Env} {H : List U} {w : World} {v : Value} {sz' : Nat} {els : List (List AV)}, HR E w H → (∀ (r : Nat) (e : U), hg r = some e → H[r]? = some e) → ah E w (.own r ver sz off n) v → ver = e.ver → sz = e.bd.sz → sz' = sz ∨ els = [] → els.length = n →
       (∀i ys,els[i]? =some ys→e.bd.at (off+i)=some ys∧jJ hg ys)→
       ∃news,Src P sz' Tx v els.length news w∧∀i ys,els[i]? =some ys→∃us:List Value,us.length=sz'∧aw E w ys us∧∀j u,us[j]? =some u→news[i*sz'+j]? =some u:=by
    intro E H w v sz' els hr hh hv gh cw Hk hlen mq
    rw[ah] at hv
    have hH:=hh r e he
    obtain⟨a,c,rfl,h1,h2,h3,h4⟩:=hv.2 (gh.trans (hr.ver r e hH).symm)
    have:=fin (E:=E) (H:=H) (w:=w) (a:=a) (c:=c) (els:=els) (sz':=sz') fB (by omega) h3 (by
     by_cases hm:els=[]
     ·exact .inl hm
     ·right
      have kj:sz'=sz:=Hk.resolve_right hm
      have hn:els.length≠0:=fun e=>hm (List.eq_nil_of_length_eq_zero e)
      obtain⟨bo,rfl,_⟩:=h4.resolve_left (by omega)
      refine⟨_,_,rfl,fun i ys hy=> ?_⟩
      obtain⟨h5,h6⟩:=mq i ys hy
      obtain⟨cs,h7,h8,h9⟩:=hr.cells hH h5
      refine⟨cs,by omega,h8,ub h6 hr hh h8,fun j u hu=> ?_⟩
      have:=h9 j u hu
      rw[←cw,Nat.add_mul] at this
      rw[kj]
      exact this)
    rw[hlen] at this⊢;exact this
   split at h
   ·rename_i l hb
    refine⟨_,_,_,h,fun p E H w v hr hh hv sz' cw=> ?_⟩
    obtain⟨p1,p2,p3⟩:=p
    refine row hr hh hv p1 (by rw[hb,p2];rfl) (cw.symm.imp (fun h=>h.trans p2.symm) id) (by simp[dq];omega) (fun i ys hy=>⟨?_,Hh hg _ ys (List.mem_of_getElem? hy)⟩)
    rw[hb]
    simp only[dq,List.getElem?_map,Option.map_eq_some_iff,List.getElem?_take,List.getElem?_drop] at hy
    obtain⟨x,hx,rfl⟩:=hy
    split at hx
    ·simp[Bd.at,hx]
    ·cases hx
   ·rename_i PT α f d l hb
    refine⟨_,_,_,h,fun p E H w v hr hh hv sz' cw=> ?_⟩
    obtain⟨p1,p2,p3,p4⟩:=p
    refine row hr hh hv p1 (by rw[hb,p2];rfl) (cw.symm.imp (fun h=>h.trans p2.symm) id) (by simp;omega) (fun i ys hy=> ?_)
    rw[hb]
    simp only[List.getElem?_map,Option.map_eq_some_iff] at hy
    obtain⟨x,hx,rfl⟩:=hy
    refine⟨?_,p4 x (List.mem_of_getElem? hx)⟩
    simp only[List.getElem?_take,List.getElem?_drop] at hx
    split at hx
    ·simp[Bd.at,hx]
    ·cases hx
   ·exact h.elim
  ·rename_i r ver i off n
   split at h
   ·exact h.elim
   rename_i e he
   split at h
   rotate_left
   ·exact h.elim
   rename_i ls hb
   refine⟨_,_,_,h,fun p E H w v hr hh hv sz' cw=> ?_⟩
   obtain⟨p1,p2,p3⟩:=p
   have hH:H[r]? =some ⟨e.ver,.aB ls⟩:=by rw[hh r e he,←hb]
   obtain⟨a,c,rfl,h1,h2,h3,h4⟩:=hr.tT hH (l:=ls.getD i []) (by simp[List.getD,p2]) p3 p1 hv
   generalize hm:((ls.getD i []).drop off).take n=m at h4 cw⊢
   have hn:m.length=n:=by rw[←hm,List.length_take,List.length_drop];omega
   have e:(dq m).length=n:=by simp[dq,hn]
   have:=fin (E:=E) (H:=H) (w:=w) (a:=a) (c:=c) (els:=dq m) (sz':=sz') fB (by omega) h3 (by
    by_cases hm:m=[]
    ·left;simp[hm,dq]
    ·right
     have kj:sz'=1:=cw.resolve_left (by simpa [dq] using hm)
     subst kj
     obtain⟨x0,mo⟩:∃x0,m[0]? =some x0:=by cases m with | nil=>exact absurd rfl hm | cons a l=>exact⟨a,rfl⟩
     obtain⟨b,_,rfl,_⟩:=h4 0 x0 mo
     refine⟨b,off,rfl,fun i ys hy=> ?_⟩
     simp only[dq,List.getElem?_map,Option.map_eq_some_iff] at hy
     obtain⟨x,hx,rfl⟩:=hy
     obtain⟨b',_,hb,cW⟩:=h4 i x hx
     cases hb
     refine⟨[bv x],rfl,by simp only[aw,ah];exact⟨_,_,rfl,rfl,rfl⟩,by simp[bv,Value.oneCell'],fun j u hu=> ?_⟩
     cases j with
     | zero=>simp at hu;subst hu;rw[Nat.mul_one,Nat.add_zero];exact cW
     | succ j=>simp at hu)
   rw[e] at this
   rw[e];exact this
  ·exact h.elim
 ·rename_i hu
  rw[hu] at hT
  have fB:P.underlying Tx=some .string:=hT
  split at h
  rotate_left
  ·exact h.elim
  rename_i s
  refine⟨_,_,_,h,fun p E H w v hr hh hv sz' cw=> ?_⟩
  rw[aY hv]
  have e:(dq s.data.toList).length=s.size:=by simp[dq]
  by_cases hm:s.data.toList=[]
  ·have e0:s.size=0:=by rw[←e,hm];rfl
   refine⟨[],?_,by simp[hm,dq]⟩
   have e1:(dq s.data.toList).length=0:=by rw[e,e0]
   rw[e1]
   have xf:s=ByteArray.empty:=by
    cases s with
    | mk a=>simp at hm;subst hm;rfl
   have h9:=Src.ofString w fB s
   have Hl:byteCells s=[]:=by unfold byteCells;rw[hm];rfl
   rw[Hl,e0] at h9
   exact⟨h9.kind,h9.len,by simp[Builtin.firstCells,xf],by simp[Builtin.firstCells,xf],by simp,by simp⟩
  ·have kj:sz'=1:=cw.resolve_left (by simpa [dq] using hm)
   subst kj
   refine⟨byteCells s,by rw[e];exact Src.ofString w fB s,fun i ys hy=> ?_⟩
   simp only[dq,List.getElem?_map,Option.map_eq_some_iff] at hy
   obtain⟨x,hx,rfl⟩:=hy
   refine⟨[bv x],rfl,by simp only[aw,ah];exact⟨_,_,rfl,rfl,rfl⟩,fun j u hu=> ?_⟩
   cases j with
   | zero=>simp at hu;subst hu;simp only[byteCells,Nat.mul_one,Nat.add_zero,List.getElem?_map,hx];rfl
   | succ j=>simp at hu
 ·exact h.elim
end
end Go.Proofs.YtpbpiehcchannaaGreatDoor
