/- Abstract values, and what each operation makes of them. Conditions: none. -/
import Derived.Test.YtpbpiehcchannaaGreatDoorJHb
import Derived.Laws.Small
import Derived.Laws.Pointers
import Derived.Great.BuildSlice
namespace Go.Proofs.YtpbpiehcchannaaGreatDoor
set_option linter.unusedVariables false
set_option linter.unusedSimpArgs false
inductive AV:Type 1 where
 | any
 | val (v:Value)
 | agg (l:List AV)
 | aD (l:List AV)
 | bs (z:Nat) (l:List UInt8)
 | sl (z sz:Nat) {α:Type} (f:α→List AV) (d:α) (l:List α)
 | own (r ver sz off n:Nat)
 | ref (r ver sz i j:Nat)
 | cp (z:Nat) (cells:List AV) (j:Nat)
 | clo (f:FuncId) (caps:List AV)
 | gG (r ver:Nat)
 | pl (r ver i off n:Nat)
 | iQ (r ver i k:Nat)
 | gd (φ:Prop) (x:AV)

structure rB where
 l:Nat
 tv:Array Value
 ks:List Nat
 ps:Array Tmp
 gX:Code
 body:Code
inductive Bd:Type 1 where
 | dead
 | bytes (l:List UInt8)
 | row (sz:Nat) {α:Type} (f:α→List AV) (d:α) (l:List α)
 | obj (l:List AV)
 | lp (i:rB) (tR:List AV) (st:Option Code)
 | az (ls:List (List UInt8))
structure J:Type 1 where
 ver:Nat
 bd:Bd

structure Env where
 ρ:Nat→Nat
 ver:Nat→Nat
 aC:Nat→Nat→Prop
 abs:Nat→Prop
 pl:Nat→Nat→Option Nat

mutual
def ae(E:Env)(w:World):AV→Value→Prop
 | .any,_=>True
 | .val u,v=>v=u
 | .agg l,v=>∃cs:List Value,v= .agg cs.toArray∧aq E w l cs
 | .aD l,v=>∃cs:List Value,v= .tuple cs.toArray∧aq E w l cs
 | .bs z l, v => ∃ a n c, v = .slice a n c ∧ n = l.length ∧ n ≤ c ∧ c ≤ maxLen ∧ (a = none → c = 0) ∧
     ∀(i:Nat)(x:UInt8),l[i]? =some x→∃b o,a=some ⟨b,o,none⟩∧E.aC z b∧w.cell? ⟨b,o+i,none⟩=some (bv x)
 | .sl z sz (α := α) f _ l, v => ∃ a n c, v = .slice a n c ∧ n = l.length ∧ n ≤ c ∧ c ≤ maxLen ∧ (a = none → c = 0) ∧
     ∀(i:Nat)(x:α),l[i]? =some x→∃b o cs,a=some ⟨b,o,none⟩∧E.aC z b∧cs.length=sz∧aq E w (f x) cs∧∀j u,cs[j]? =some u→w.cell? ⟨b,o+i*sz+j,none⟩=some u
 | .own r ver sz off n,v=>ver≤E.ver r∧(ver=E.ver r→∃a c,v= .slice a n c∧n≤c∧c≤maxLen∧(a=none→c=0)∧(c=0∨¬E.abs r∧a=some ⟨E.ρ r,off*sz,none⟩∧∃cur T fz,w.heap[E.ρ r]? =some (.cells cur T fz)∧(off+c)*sz≤cur.size))
 | .ref r ver sz i j,v=>ver≤E.ver r∧(ver=E.ver r→v= .pointer (some ⟨E.ρ r,i*sz+j,none⟩))
 | .cp z cells j,v=>∃b o cs,v= .pointer (some ⟨b,o+j,none⟩)∧E.aC z b∧aq E w cells cs∧∀j u,cs[j]? =some u→w.cell? ⟨b,o+j,none⟩=some u
 | .clo f caps,v=>∃cs:List Value,v= .func (.func f) #[] cs.toArray∧aq E w caps cs
 | .gG r ver,v=>ver≤E.ver r∧(ver=E.ver r→v= .func (.yield (E.ρ r)) #[] #[])
 | .pl r ver i off n,v=>ver≤E.ver r∧(ver=E.ver r→∃a c,v= .slice a n c∧n≤c∧c≤maxLen∧(a=none→c=0)∧(n=0∨∃b,E.pl r i=some b∧a=some ⟨b,off,none⟩∧∃cur T fz,w.heap[b]? =some (.cells cur T fz)∧off+n≤cur.size))
 | .iQ r ver i k,v=>ver≤E.ver r∧(ver=E.ver r→∃b,E.pl r i=some b∧v= .pointer (some ⟨b,k,none⟩))
 | .gd φ x,v=>(φ→ae E w x v)∧(¬φ→v=undef)
def aq(E:Env)(w:World):List AV→List Value→Prop
 | [],vs=>vs=[]
 | x::xs,vs=>∃v dm,vs=v::dm∧ae E w x v∧aq E w xs dm
end

theorem eX{E:Env}{w:World}:∀{xs:List AV}{vs:List Value},aq E w xs vs→xs.length=vs.length∧∀(i:Nat)(x:AV),xs[i]? =some x→∃v,vs[i]? =some v∧ae E w x v
 | [],vs,h=>by rw[aq] at h;subst h;simp
 | x::xs,vs,h=>by
  rw[aq] at h
  obtain⟨v,dm,rfl,h1,h2⟩:=h
  obtain⟨h3,h4⟩:=eX h2
  refine⟨by simp[h3],fun i y hy=> ?_⟩
  cases i with
  | zero=>simp at hy;subst hy;exact⟨v,rfl,h1⟩
  | succ i=>simpa using h4 i y (by simpa using hy)
theorem tu{E:Env}{w:World}:∀{xs:List AV}{vs:List Value},xs.length=vs.length→(∀(i:Nat)(x:AV)(v:Value),xs[i]? =some x→vs[i]? =some v→ae E w x v)→aq E w xs vs
 | [],vs,hl,_=>by rw[aq];exact List.eq_nil_of_length_eq_zero (by simpa using hl.symm)
 | x::xs,[],hl,_=>by simp at hl
 | x::xs,v::vs,hl,h=>by
  rw[aq]
  exact⟨v,vs,rfl,h 0 x v rfl rfl,tu (by simpa using hl) (fun i y u hy hu=>h (i+1) y u (by simpa using hy) (by simpa using hu))⟩

structure Ext(E E':Env)(w w':World):Prop where
 ver:∀r,E.ver r≤E'.ver r
 dM:∀r,E'.ver r=E.ver r→E'.ρ r=E.ρ r
 abs:∀r,E'.ver r=E.ver r→(E'.abs r↔E.abs r)
 aC:∀z b,E.aC z b→E'.aC z b
 cell:∀z b,E.aC z b→w'.heap[b]? =w.heap[b]?
 grow:∀(k:Nat) cur T fz,w.heap[k]? =some (.cells cur T fz)→∃cW T' eS,w'.heap[k]? =some (.cells cW T' eS)∧cur.size≤cW.size
 pl:∀r,E'.ver r=E.ver r→∀i b,E.pl r i=some b→E'.pl r i=some b
theorem Ext.refl(E:Env)(w:World):Ext E E w w:=⟨fun _=>Nat.le_refl _,fun _ _=>rfl,fun _ _=>Iff.rfl,fun _ _ h=>h,fun _ _ _=>rfl,fun _ cur T fz h=>⟨cur,T,fz,h,Nat.le_refl _⟩,fun _ _ _ _ h=>h⟩
theorem Ext.trans{E E' wC:Env}{w w' wE:World}(h:Ext E E' w w')(k:Ext E' wC w' wE):Ext E wC w wE:=by
 have hv:∀r,wC.ver r=E.ver r→E'.ver r=E.ver r∧wC.ver r=E'.ver r:=fun r e=>by have:=h.ver r;have:=k.ver r;omega
 refine⟨fun r=>Nat.le_trans (h.ver r) (k.ver r),fun r e=>(k.dM r (hv r e).2).trans (h.dM r (hv r e).1),fun r e=>(k.abs r (hv r e).2).trans (h.abs r (hv r e).1),fun z b hz=>k.aC z b (h.aC z b hz),fun z b hz=>(k.cell z b (h.aC z b hz)).trans (h.cell z b hz),fun m cur T fz hc=> ?_,fun r e i b q=>k.pl r (hv r e).2 i b (h.pl r (hv r e).1 i b q)⟩
 obtain⟨cW,T',eS,h1,h2⟩:=h.grow m cur T fz hc
 obtain⟨Kc,Kd,Ke,h3,h4⟩:=k.grow m cW T' eS h1
 exact⟨Kc,Kd,Ke,h3,Nat.le_trans h2 h4⟩

theorem World.cell_of_heap{w w':World}{b o:Nat}(h:w'.heap[b]? =w.heap[b]?):w'.cell? ⟨b,o,none⟩=w.cell? ⟨b,o,none⟩:=World.cell?_of_block (w:=w) (a:=⟨b,o,none⟩) h
mutual
theorem fD{E E':Env}{w w':World}(X:Ext E E' w w'):∀(x:AV)(v:Value),ae E w x v→ae E' w' x v
 | .any,_,_=>by rw[ae];trivial
 | .val u,v,h=>by rw[ae] at h⊢;exact h
 | .agg l,v,h=>by
  rw[ae] at h⊢
  obtain⟨cs,rfl,h⟩:=h
  exact⟨cs,rfl,fV X l cs h⟩
 | .aD l,v,h=>by
  rw[ae] at h⊢
  obtain⟨cs,rfl,h⟩:=h
  exact⟨cs,rfl,fV X l cs h⟩
 | .bs z l,v,h=>by
  rw[ae] at h⊢
  obtain⟨a,n,c,rfl,h1,h2,h3,h4,h5⟩:=h
  refine⟨a,n,c,rfl,h1,h2,h3,h4,fun i x hx=> ?_⟩
  obtain⟨b,o,h6,h7,h8⟩:=h5 i x hx
  exact⟨b,o,h6,X.aC z b h7,(World.cell_of_heap (X.cell z b h7)).trans h8⟩
 | .sl z sz f d l,v,h=>by
  rw[ae] at h⊢
  obtain⟨a,n,c,rfl,h1,h2,h3,h4,h5⟩:=h
  refine⟨a,n,c,rfl,h1,h2,h3,h4,fun i x hx=> ?_⟩
  obtain⟨b,o,cs,h6,h7,h8,h9,km⟩:=h5 i x hx
  exact⟨b,o,cs,h6,X.aC z b h7,h8,fV X (f x) cs h9,fun j u hu=>(World.cell_of_heap (X.cell z b h7)).trans (km j u hu)⟩
 | .own r ver sz off n,v,h=>by
  rw[ae] at h⊢
  obtain⟨h0,h⟩:=h
  refine⟨Nat.le_trans h0 (X.ver r),fun e=> ?_⟩
  have e1:E'.ver r=E.ver r:=by have:=X.ver r;omega
  obtain⟨a,c,rfl,h1,h2,h3,h4⟩:=h (by omega)
  refine⟨a,c,rfl,h1,h2,h3,h4.imp id fun⟨y9,h5,cur,T,fz,h6,h7⟩=> ?_⟩
  obtain⟨cW,T',eS,h8,h9⟩:=X.grow _ cur T fz h6
  rw[X.dM r e1]
  exact⟨fun q=>y9 ((X.abs r e1).1 q),h5,cW,T',eS,h8,Nat.le_trans h7 h9⟩
 | .ref r ver sz i j,v,h=>by
  rw[ae] at h⊢
  obtain⟨h0,h⟩:=h
  refine⟨Nat.le_trans h0 (X.ver r),fun e=> ?_⟩
  have e1:E'.ver r=E.ver r:=by have:=X.ver r;omega
  rw[X.dM r e1]
  exact h (by omega)
 | .cp z cells j,v,h=>by
  rw[ae] at h⊢
  obtain⟨b,o,cs,rfl,h7,h9,km⟩:=h
  exact⟨b,o,cs,rfl,X.aC z b h7,fV X cells cs h9,fun j u hu=>(World.cell_of_heap (X.cell z b h7)).trans (km j u hu)⟩
 | .clo f caps,v,h=>by
  rw[ae] at h⊢
  obtain⟨cs,rfl,h⟩:=h
  exact⟨cs,rfl,fV X caps cs h⟩
 | .gG r ver,v,h=>by
  rw[ae] at h⊢
  obtain⟨h0,h⟩:=h
  refine⟨Nat.le_trans h0 (X.ver r),fun e=> ?_⟩
  have e1:E'.ver r=E.ver r:=by have:=X.ver r;omega
  rw[X.dM r e1]
  exact h (by omega)
 | .pl r ver i off n,v,h=>by
  rw[ae] at h⊢
  obtain⟨h0,h⟩:=h
  refine⟨Nat.le_trans h0 (X.ver r),fun e=> ?_⟩
  have e1:E'.ver r=E.ver r:=by have:=X.ver r;omega
  obtain⟨a,c,rfl,h1,h2,h3,h4⟩:=h (by omega)
  refine⟨a,c,rfl,h1,h2,h3,h4.imp id fun⟨b,y9,h5,cur,T,fz,h6,h7⟩=> ?_⟩
  obtain⟨cW,T',eS,h8,h9⟩:=X.grow _ cur T fz h6
  exact⟨b,X.pl r e1 i b y9,h5,cW,T',eS,h8,Nat.le_trans h7 h9⟩
 | .iQ r ver i k,v,h=>by
  rw[ae] at h⊢
  obtain⟨h0,h⟩:=h
  refine⟨Nat.le_trans h0 (X.ver r),fun e=> ?_⟩
  have e1:E'.ver r=E.ver r:=by have:=X.ver r;omega
  obtain⟨b,h1,h2⟩:=h (by omega)
  exact⟨b,X.pl r e1 i b h1,h2⟩
 | .gd φ x,v,h=>by
  rw[ae] at h⊢
  exact⟨fun p=>fD X x v (h.1 p),h.2⟩
theorem fV{E E':Env}{w w':World}(X:Ext E E' w w'):∀(xs:List AV)(vs:List Value),aq E w xs vs→aq E' w' xs vs
 | [],vs,h=>by rw[aq] at h⊢;exact h
 | x::xs,vs,h=>by
  rw[aq] at h⊢
  obtain⟨v,dm,rfl,h1,h2⟩:=h
  exact⟨v,dm,rfl,fD X x v h1,fV X xs dm h2⟩
end

def Bd.at:Bd→Nat→Option (List AV)
 | .dead,_=>none
 | .bytes l,i=>(l[i]?).map fun b=>[.val (bv b)]
 | .row _ f _ l,i=>(l[i]?).map f
 | .obj l,i=>if i=0 then some l else none
 | .lp ..,_=>none
 | .az _,_=>none
def Bd.sz:Bd→Nat
 | .dead=>0
 | .bytes _=>1
 | .row sz _ _ _=>sz
 | .obj l=>l.length
 | .lp .. =>0
 | .az _=>0
def Bd.count:Bd→Nat
 | .dead=>0
 | .bytes l=>l.length
 | .row _ _ _ l=>l.length
 | .obj _=>1
 | .lp .. =>1
 | .az _=>1
def Bd.live:Bd→Bool
 | .dead=>false
 | .az _=>false
 | _=>true
def Bd.gY:Bd→Bool
 | .az _=>true
 | _=>false
def Bd.jq:Bd→Bool
 | .dead=>false
 | .lp .. =>false
 | .az _=>false
 | _=>true
def Bd.oF:Bd→Bool
 | .lp .. =>true
 | .az _=>true
 | _=>false
theorem Bd.tw{b:Bd}(h:b.jq=true):b.oF=false:=by cases b<;>first | rfl | cases h
theorem Bd.pT{b:Bd}(h:b.oF=false){i tR st}:b≠.lp i tR st:=by intro e;rw[e] at h;cases h
theorem Bd.pU{b:Bd}(h:b.oF=false):b.gY=false:=by cases b<;>first | rfl | cases h
theorem Bd.rC{b:Bd}(h:b.jq=true):b.live=true:=by cases b<;>first | rfl | cases h
theorem Bd.nK{b:Bd}{i:Nat}{ys:List AV}(h:b.at i=some ys):i<b.count:=by
 cases b with
 | dead=>simp[Bd.at] at h
 | bytes l=>
  simp only[Bd.at,Option.map_eq_some_iff] at h
  obtain⟨x,hx,_⟩:=h
  exact(List.getElem?_eq_some_iff.1 hx).1
 | row sz f d l=>
  simp only[Bd.at,Option.map_eq_some_iff] at h
  obtain⟨x,hx,_⟩:=h
  exact(List.getElem?_eq_some_iff.1 hx).1
 | obj l=>
  simp only[Bd.at] at h
  split at h
  ·simp[Bd.count];assumption
  ·cases h
 | lp=>simp[Bd.at] at h
 | az=>simp[Bd.at] at h
structure fm(E:Env)(w:World)(b:Nat)(bd:Bd):Prop where
 aQ:bd.jq=true→∃cur T lo hi,w.heap[b]? =some (.cells cur T (lo,hi))∧(hi=lo∨cur.size≤lo)∧bd.count*bd.sz≤cur.size∧
  ∀i ys,bd.at i=some ys→∃cs,cs.length=bd.sz∧aq E w ys cs∧∀j u,cs[j]? =some u→cur[i*bd.sz+j]? =some u
 lp:∀i tR st,bd= .lp i tR st→b=i.l∧∃R:Loop,w.heap[b]? =some (.loop R)∧R.params=i.ps∧R.assign=i.gX∧R.body=i.body∧R.pending=st∧R.state=(if st.isNone then .ready else .done)∧R.tmps=i.tv∧aq E w tR i.tv.toList∧
  ∀D∈i.ks,(∃z,E.aC z D)∧w.heap[D]? =some (.deferred (some []))
theorem fm.ext{E E':Env}{w w':World}{b:Nat}{bd:Bd}(X:Ext E E' w w')(h:fm E w b bd)(hb:w'.heap[b]? =w.heap[b]?):fm E' w' b bd:=
 ⟨fun hl=>by
  obtain⟨cur,T,lo,hi,h1,h2,h3,h4⟩:=h.aQ hl
  exact⟨cur,T,lo,hi,hb.trans h1,h2,h3,fun i ys hy=>by
   obtain⟨cs,h5,h6,h7⟩:=h4 i ys hy
   exact⟨cs,h5,fV X ys cs h6,h7⟩⟩,fun i tR st e=>by
  obtain⟨h0,R,h1,h2,h3,h4,h5,h6,h7,h8,h9⟩:=h.lp _ _ _ e
  refine⟨h0,R,hb.trans h1,h2,h3,h4,h5,h6,h7,fV X tR _ h8,fun D hD=> ?_⟩
  obtain⟨⟨z,hz⟩,hh⟩:=h9 D hD
  exact⟨⟨z,X.aC z D hz⟩,(X.cell z D hz).trans hh⟩⟩
def bN(E:Env)(r:Nat)(e:J):Prop:=e.bd.live=true∧¬E.abs r
def Gl(E:Env)(w:World):Prop:=∀g cs,rD g=some cs→E.aC 0 g∧∀(j:Nat)(u:Value),cs[j]? =some u→w.cell? ⟨g,j,none⟩=some u
theorem Gl.ext{E E':Env}{w w':World}(X:Ext E E' w w')(h:Gl E w):Gl E' w':=fun g cs hg=>by
 obtain⟨h1,h2⟩:=h g cs hg
 exact⟨X.aC 0 g h1,fun j u hu=>(World.cell_of_heap (X.cell 0 g h1)).trans (h2 j u hu)⟩
def aB(E:Env)(r:Nat)(e:J)(b:Nat):Prop:=(bN E r e∧E.ρ r=b)∨(e.bd.gY=true∧∃i,E.pl r i=some b)
theorem aB.of{E:Env}{r:Nat}{e:J}(h:bN E r e):aB E r e (E.ρ r):= .inl ⟨h,rfl⟩
theorem aB.dead{E:Env}{r v b:Nat}:¬aB E r ⟨v,.dead⟩ b:=by
 rintro(⟨⟨h,_⟩,_⟩ | ⟨h,_⟩)<;>cases h
structure pV(pl:Nat→Option Nat)(w:World)(ls:List (List UInt8)):Prop where
 has:∀(i:Nat)(l:List UInt8),ls[i]? =some l→l≠[]→∃b,pl i=some b
 aQ:∀(i:Nat)(l:List UInt8)(b:Nat),ls[i]? =some l→pl i=some b→∃cur T lo hi,w.heap[b]? =some (.cells cur T (lo,hi))∧(hi=lo∨cur.size≤lo)∧l.length≤cur.size∧∀(j:Nat)(x:UInt8),l[j]? =some x→cur[j]? =some (bv x)
 inj:∀i j b,pl i=some b→pl j=some b→i=j
 top:∀i b,pl i=some b→i<ls.length
theorem pV.lt{pl:Nat→Option Nat}{w:World}{ls:List (List UInt8)}(h:pV pl w ls){i b:Nat}(hb:pl i=some b):b<w.heap.size:=by
 obtain⟨cur,T,lo,hi,h1,_⟩:=h.aQ i _ b (List.getElem?_eq_getElem (h.top i b hb)) hb
 exact(Array.getElem?_eq_some_iff.1 h1).1
theorem pV.mL{pl:Nat→Option Nat}{w w':World}{ls:List (List UInt8)}(h:pV pl w ls)(hw:∀i b,pl i=some b→w'.heap[b]? =w.heap[b]?):pV pl w' ls:=
 ⟨h.has,fun i l b hl hb=>by rw[hw i b hb];exact h.aQ i l b hl hb,h.inj,h.top⟩
structure HR(E:Env)(w:World)(H:List J):Prop where
 ver:∀(r:Nat)(e:J),H[r]? =some e→E.ver r=e.ver
 bS:∀(r:Nat)(e:J),H[r]? =some e→bN E r e→fm E w (E.ρ r) e.bd
 abs:∀(r:Nat)(e:J),H[r]? =some e→E.abs r→e.bd.count=0
 inj:∀(r r':Nat)(e e':J)(b:Nat),H[r]? =some e→H[r']? =some e'→aB E r e b→aB E r' e' b→r=r'
 cX:∀z b,E.aC z b→b<w.heap.size
 dC:∀(r:Nat)(e:J)(b:Nat),H[r]? =some e→aB E r e b→∀z,¬E.aC z b
 top:∀r,H.length≤r→E.ver r=0∧¬E.abs r
 gl:Gl E w
 az:∀(r v:Nat)(ls:List (List UInt8)),H[r]? =some ⟨v,.az ls⟩→pV (E.pl r) w ls
theorem HR.lt{E:Env}{w:World}{H:List J}(h:HR E w H){r:Nat}{e:J}(hr:H[r]? =some e)(hl:bN E r e):E.ρ r<w.heap.size:=by
 have he:=h.bS r e hr hl
 cases hb:e.bd with
 | dead=>have:=hl.1;rw[hb] at this;cases this
 | az=>have:=hl.1;rw[hb] at this;cases this
 | lp i tR st=>
  obtain⟨_,R,h1,_⟩:=he.lp _ _ _ hb
  exact(Array.getElem?_eq_some_iff.1 h1).1
 | bytes l=>obtain⟨cur,T,lo,hi,h1,_⟩:=he.aQ (by rw[hb];rfl);exact(Array.getElem?_eq_some_iff.1 h1).1
 | row sz f d l=>obtain⟨cur,T,lo,hi,h1,_⟩:=he.aQ (by rw[hb];rfl);exact(Array.getElem?_eq_some_iff.1 h1).1
 | obj l=>obtain⟨cur,T,lo,hi,h1,_⟩:=he.aQ (by rw[hb];rfl);exact(Array.getElem?_eq_some_iff.1 h1).1
theorem DU{e:J}(h:e.bd.gY=true):∃ls,e=⟨e.ver,.az ls⟩:=by
 obtain⟨v,bd⟩:=e
 cases bd<;>first | exact⟨_,rfl⟩ | cases h
theorem HR.blt{E:Env}{w:World}{H:List J}(h:HR E w H){r:Nat}{e:J}(hr:H[r]? =some e){b:Nat}(hb:aB E r e b):b<w.heap.size:=by
 rcases hb with⟨hl,rfl⟩ | ⟨hp,i,hi⟩
 ·exact h.lt hr hl
 ·obtain⟨ls,he⟩:=DU hp
  rw[he] at hr
  exact(h.az r _ ls hr).lt hi
theorem HR.wF{E:Env}{w:World}{H:List J}(h:HR E w H)(r:Nat)(e:J)(hr:H[r]? =some e)(hl:bN E r e)(z:Nat):¬E.aC z (E.ρ r):=h.dC r e _ hr (aB.of hl) z
structure Fr(w0:World)(keep:Nat→Prop)(E:Env)(H:List J)(w:World):Prop where
 os:w.os=w0.os
 tape:w.tape=w0.tape
 output:w.output=w0.output
 size:w0.heap.size≤w.heap.size
 block:∀k,k<w0.heap.size→keep k→w.heap[k]? =w0.heap[k]?
 grow:∀(k:Nat) cur T fz,w0.heap[k]? =some (.cells cur T fz)→∃cW T' eS,w.heap[k]? =some (.cells cW T' eS)∧cur.size≤cW.size
 rows:∀(r:Nat)(e:J)(b:Nat),H[r]? =some e→aB E r e b→b<w0.heap.size→¬keep b

set_option linter.unusedVariables false
set_option linter.unusedSimpArgs false
inductive UK where
 | int (k:IntKind) | bool | string | ptr (E:TypeId) | slice (E:TypeId) | array (n:Nat) (E:TypeId) | struct (fs:List (Nat×TypeId)) | func | other
structure TI where
 u:UK
 sz:Nat
 bytes:Nat
 zero:List Value
 cmp:Bool
def dD(k:IntKind)(n:Int):Prop:=match k with
 | .i8=> -128≤n∧n≤127
 | .i16=> -32768≤n∧n≤32767
 | .i32=> -2147483648≤n∧n≤2147483647
 | .i64=> -9223372036854775808≤n∧n≤9223372036854775807
 | .u8=>0≤n∧n≤255
 | .u16=>0≤n∧n≤65535
 | .u32=>0≤n∧n≤4294967295
 | .u64=>0≤n∧n≤18446744073709551615
def oG:Value→Value→Prop
 | .int k _,.int k' n=>k'=k∧dD k n
 | .bool _,.bool _=>True
 | .string _,.string s=>s.size≤maxLen
 | _,_=>False
def gZ:List Value→List Value→Prop
 | [],[]=>True
 | x::xs,y::ys=>oG x y∧gZ xs ys
 | _,_=>False
def lW:Value→Value→Bool
 | .int _ a,.int _ b=>decide (a=b)
 | .bool a,.bool b=>decide (a=b)
 | .string a,.string b=>decide (a.data.toList=b.data.toList)
 | _,_=>false
def eK:List Value→List Value→Bool
 | [],[]=>true
 | x::xs,y::ys=>lW x y&&eK xs ys
 | _,_=>false
def wG(P:Program)(t:TypeId)(z:List Value):Prop:=∀(w:World)(vs ws:List Value)(x y:Operand),gZ z vs→gZ z ws→
 (eqGuard .eql t x y (.agg vs.toArray) (.agg ws.toArray)).run P w= .ok () w∧(eqGuard .neq t x y (.agg vs.toArray) (.agg ws.toArray)).run P w= .ok () w∧
 (binOp .eql t (.agg vs.toArray) (.agg ws.toArray)).run P w= .ok (.bool (eK vs ws)) w∧(binOp .neq t (.agg vs.toArray) (.agg ws.toArray)).run P w= .ok (.bool (!eK vs ws)) w
def UK.ok(P:Program)(t:TypeId):UK→Prop
 | .int k=>P.underlying t=some (.int k)
 | .bool=>P.underlying t=some .bool
 | .string=>P.underlying t=some .string
 | .ptr E=>P.underlying t=some (.pointer E)
 | .slice E=>P.underlying t=some (.slice E)
 | .array n E=>P.underlying t=some (.array n E)
 | .struct fs=>∃ko,P.underlying t=some (.struct ko)∧ko.toList.map (fun f=>(f.offset,f.type))=fs
 | .func=>∃a b c,P.underlying t=some (.func a b c)
 | .other=>True
def UK.isAgg:UK→Bool
 | .struct _ | .array _ _=>true
 | _=>false
structure bj(P:Program)(t:TypeId)(ti:TI):Prop where
 u:ti.u.ok P t
 info:∃z,(P.info? t).map (fun i=>(i.zero,i.size,i.bytes))=some (some z,ti.sz,ti.bytes)∧z.cells.toList=ti.zero
 oH:ti.zero.length=ti.sz
 cmp:ti.cmp=true→wG P t ti.zero
def cD(P:Program)(tb:TypeId→Option TI):Prop:=∀t ti,tb t=some ti→bj P t ti

def bb{α:Type 1}:List α→Nat→Option α
 | [],_=>none
 | x::_,0=>some x
 | _::l,n+1=>bb l n
theorem cj{α:Type 1}:∀(l:List α)(i:Nat),bb l i=l[i]?
 | [],_=>rfl
 | _::_,0=>rfl
 | _::l,i+1=>by simpa [bb] using cj l i
def bF(l:List AV)(i:Nat):AV:=match bb l i with | some x=>x | none=> .any
def aJ{α:Type 1}:List α→Nat→α→List α
 | [],_,_=>[]
 | _::l,0,v=>v::l
 | x::l,n+1,v=>x::aJ l n v
theorem bK{α:Type 1}:∀(l:List α)(i:Nat)(v:α),aJ l i v=l.set i v
 | [],_,_=>rfl
 | _::_,0,_=>rfl
 | _::l,i+1,v=>by simp[aJ,bK l i v]
def dc{α:Type 1}:List α→Nat→List α
 | l,0=>l
 | [],_+1=>[]
 | _::l,n+1=>dc l n
theorem jr{α:Type 1}:∀(l:List α)(i:Nat),dc l i=l.drop i
 | _,0=>by simp[dc]
 | [],_+1=>by simp[dc]
 | _::l,i+1=>by simp[dc,jr l i]
def dw{α:Type 1}:List α→Nat→List α
 | _,0=>[]
 | [],_+1=>[]
 | x::l,n+1=>x::dw l n
theorem js{α:Type 1}:∀(l:List α)(i:Nat),dw l i=l.take i
 | _,0=>by simp[dw]
 | [],_+1=>by simp[dw]
 | _::l,i+1=>by simp[dw,js l i]

theorem zc{k:IntKind}{n:Int}(h:dD k n):k.wrap n=n:=by
 cases k<;>simp only[dD] at h<;>simp[IntKind.wrap,IntKind.signed,IntKind.bits]<;>omega
theorem wrap_u8(n:Int):IntKind.u8.wrap n=n%256:=by simp[IntKind.wrap,IntKind.signed,IntKind.bits]
theorem wrap_u16(n:Int):IntKind.u16.wrap n=n%65536:=by simp[IntKind.wrap,IntKind.signed,IntKind.bits]
theorem wrap_u32(n:Int):IntKind.u32.wrap n=n%4294967296:=by simp[IntKind.wrap,IntKind.signed,IntKind.bits]
theorem wrap_u64(n:Int):IntKind.u64.wrap n=n%18446744073709551616:=by simp[IntKind.wrap,IntKind.signed,IntKind.bits]
abbrev KF:=Prop→AV→List (Nat×J)→Prop
def ar(k:IntKind)(n:Int)(K:Prop→AV→Prop):Prop:=match k with
 | .i64=>K (dD .i64 n) (.val (.int .i64 n))
 | .u8=>K True (.val (.int .u8 (n%256)))
 | .u16=>K True (.val (.int .u16 (n%65536)))
 | .u32=>K True (.val (.int .u32 (n%4294967296)))
 | .u64=>K True (.val (.int .u64 (n%18446744073709551616)))
 | k=>K True (.val (.int k (k.wrap n)))
theorem rE{k:IntKind}{n:Int}{K:Prop→AV→Prop}(h:ar k n K):∃Φ m,K Φ (.val (.int k m))∧(Φ→k.wrap n=m):=by
 cases k<;>simp only[ar] at h
 case i64=>exact⟨_,_,h,fun p=>zc p⟩
 case u8=>exact⟨_,_,h,fun _=>wrap_u8 n⟩
 case u16=>exact⟨_,_,h,fun _=>wrap_u16 n⟩
 case u32=>exact⟨_,_,h,fun _=>wrap_u32 n⟩
 case u64=>exact⟨_,_,h,fun _=>wrap_u64 n⟩
 all_goals exact⟨_,_,h,fun _=>rfl⟩
def DV(k:IntKind)(a b:Int)(K:Prop→AV→Prop):Prop:=match k with
 | .i64=>if b=4294967295 then K True (.val (.int .i64 (a%4294967296))) else K (0≤a∧0≤b∧dD .i64 a∧dD .i64 b) (.val (.int .i64 ((a.toNat&&&b.toNat:Nat):Int)))
 | k=>K (0≤a∧0≤b∧dD k a∧dD k b) (.val (.int k ((a.toNat&&&b.toNat:Nat):Int)))
def zd(op:BinOp)(k:IntKind)(a b:Int)(K:Prop→AV→Prop):Prop:=match op with
 | .add=>ar k (a+b) K
 | .sub=>ar k (a - b) K
 | .mul=>ar k (a*b) K
 | .quo=>K (0≤a∧dD k a∧0<b) (.val (.int k (a/b)))
 | .rem=>K (0≤a∧dD k a∧0<b) (.val (.int k (a%b)))
 | .and=>DV k a b K
 | .or=>K (0≤a∧0≤b∧dD k a∧dD k b) (.val (.int k ((a.toNat|||b.toNat:Nat):Int)))
 | .xor=>K (0≤a∧0≤b∧dD k a∧dD k b) (.val (.int k ((a.toNat^^^b.toNat:Nat):Int)))
 | .eql=>K True (.val (.bool (decide (a=b))))
 | .neq=>K True (.val (.bool (!decide (a=b))))
 | .lss=>K True (.val (.bool (decide (a<b))))
 | .leq=>K True (.val (.bool (decide (a≤b))))
 | .gtr=>K True (.val (.bool (decide (b<a))))
 | .geq=>K True (.val (.bool (decide (b≤a))))
 | _=>False
theorem oI{k:IntKind}{a:Int}(h:dD k a)(h0:0≤a):a.toNat<2^k.bits:=by
 cases k<;>simp only[dD] at h<;>simp only[IntKind.bits]<;>omega
theorem tz{k:IntKind}{a:Int}(h:dD k a)(h0:0≤a)(hs:k.signed=true):a.toNat<2^(k.bits - 1):=by
 cases k<;>simp only[dD] at h<;>simp only[IntKind.bits]<;>simp[IntKind.signed] at hs<;>omega
theorem tA{k:IntKind}{n:Nat}(h:n<2^k.bits)(hs:k.signed=true→n<2^(k.bits - 1)):k.wrap n=n:=by
 apply zc
 cases k<;>simp[IntKind.bits,IntKind.signed] at h hs<;>simp only[dD]<;>omega
theorem oJ{k:IntKind}{a:Int}(h:dD k a)(h0:0≤a):(BitVec.ofInt k.bits a).toNat=a.toNat:=by
 have h1:=oI h h0
 rw[BitVec.toNat_ofInt]
 cases k<;>simp only[IntKind.bits] at h1⊢<;>omega
variable {P:Program}
theorem Kf {op : BinOp} {k : IntKind} {a b : Int} {K : Prop → AV → Prop} (T : TypeId) (h : zd op k a b K) :
    ∃Φ u,K Φ (.val u)∧(Φ→∀w,(binOp op T (.int k a) (.int k b)).run P w= .ok u w):=by
 cases op<;>simp only[zd] at h
 case add=>obtain⟨Φ,m,h1,h2⟩:=rE h;exact⟨Φ,_,h1,fun p w=>by simp[binOp,Op.intArith,h2 p]⟩
 case sub=>obtain⟨Φ,m,h1,h2⟩:=rE h;exact⟨Φ,_,h1,fun p w=>by simp[binOp,Op.intArith,h2 p]⟩
 case mul=>obtain⟨Φ,m,h1,h2⟩:=rE h;exact⟨Φ,_,h1,fun p w=>by simp[binOp,Op.intArith,h2 p]⟩
 case quo=>exact⟨_,_,h,fun p w=>by
  obtain⟨h0,h1,h2⟩:=p
  have e:a.tdiv b=a/b:=Int.tdiv_eq_ediv_of_nonneg h0
  have hd:0≤a/b:=Int.ediv_nonneg h0 (by omega)
  have hle:a/b≤a:=Int.ediv_le_self _ h0
  have hk:dD k (a/b):=by cases k<;>simp only[dD] at h1⊢<;>omega
  have hb:¬b=0:=by omega
  simp[binOp,Op.intDiv,hb,e,zc hk]⟩
 case rem=>exact⟨_,_,h,fun p w=>by
  obtain⟨h0,h1,h2⟩:=p
  have e:a.tmod b=a%b:=Int.tmod_eq_emod_of_nonneg h0
  have hb:¬b=0:=by omega
  simp[binOp,Op.intDiv,hb,e]⟩
 case and=>
  have old:K (0≤a∧0≤b∧dD k a∧dD k b) (.val (.int k ((a.toNat&&&b.toNat:Nat):Int)))→∃Φ u,K Φ (.val u)∧(Φ→∀w,(binOp .and T (.int k a) (.int k b)).run P w= .ok u w):=fun h=>⟨_,_,h,fun p w=>by
   obtain⟨h0,h1,h2,h3⟩:=p
   have e:k.wrap ((BitVec.ofInt k.bits a&&&BitVec.ofInt k.bits b).toNat:Int)=((a.toNat&&&b.toNat:Nat):Int):=by
    rw[BitVec.toNat_and,oJ h2 h0,oJ h3 h1]
    exact tA (Nat.and_lt_two_pow _ (oI h3 h1)) (fun hs=>Nat.and_lt_two_pow _ (tz h3 h1 hs))
   simp only[binOp,ne_eq,not_true_eq_false,if_false,Op.intBits,Sem.run_pure,e]⟩
  unfold DV at h
  split at h
  ·split at h
   ·rename_i hb
    subst hb
    refine⟨_,_,h,fun _ w=> ?_⟩
    have e:IntKind.i64.wrap ((BitVec.ofInt IntKind.i64.bits a&&&BitVec.ofInt IntKind.i64.bits 4294967295).toNat:Int)=a%4294967296:=by
     have e1:(BitVec.ofInt IntKind.i64.bits 4294967295).toNat=2^32 - 1:=rfl
     have e2:(BitVec.ofInt IntKind.i64.bits a).toNat=(a%18446744073709551616).toNat:=by
      rw[BitVec.toNat_ofInt];rfl
     rw[BitVec.toNat_and,e1,e2,Nat.and_two_pow_sub_one_eq_mod]
     have e3:(((a%18446744073709551616).toNat%2^32:Nat):Int)=a%4294967296:=by omega
     rw[←e3]
     have ah:(a%18446744073709551616).toNat%2^32<2^32:=Nat.mod_lt _ (by decide)
     exact tA (Nat.lt_of_lt_of_le ah (by decide)) (fun _=>Nat.lt_of_lt_of_le ah (by decide))
    simp only[binOp,ne_eq,not_true_eq_false,if_false,Op.intBits,Sem.run_pure,e]
   ·exact old h
  ·exact old h
 case or=>exact⟨_,_,h,fun p w=>by
  obtain⟨h0,h1,h2,h3⟩:=p
  have e:k.wrap ((BitVec.ofInt k.bits a|||BitVec.ofInt k.bits b).toNat:Int)=((a.toNat|||b.toNat:Nat):Int):=by
   rw[BitVec.toNat_or,oJ h2 h0,oJ h3 h1]
   exact tA (Nat.or_lt_two_pow (oI h2 h0) (oI h3 h1)) (fun hs=>Nat.or_lt_two_pow (tz h2 h0 hs) (tz h3 h1 hs))
  simp only[binOp,ne_eq,not_true_eq_false,if_false,Op.intBits,Sem.run_pure,e]⟩
 case xor=>exact⟨_,_,h,fun p w=>by
  obtain⟨h0,h1,h2,h3⟩:=p
  have e:k.wrap ((BitVec.ofInt k.bits a^^^BitVec.ofInt k.bits b).toNat:Int)=((a.toNat^^^b.toNat:Nat):Int):=by
   rw[BitVec.toNat_xor,oJ h2 h0,oJ h3 h1]
   exact tA (Nat.xor_lt_two_pow (oI h2 h0) (oI h3 h1)) (fun hs=>Nat.xor_lt_two_pow (tz h2 h0 hs) (tz h3 h1 hs))
  simp only[binOp,ne_eq,not_true_eq_false,if_false,Op.intBits,Sem.run_pure,e]⟩
 case eql=>exact⟨_,_,h,fun p w=>by simp only[binOp,ne_eq,not_true_eq_false,if_false,Op.intCmp,Sem.run_pure];rfl⟩
 case neq=>exact⟨_,_,h,fun p w=>by simp only[binOp,ne_eq,not_true_eq_false,if_false,Op.intCmp,Sem.run_pure];rfl⟩
 case lss=>exact⟨_,_,h,fun p w=>by simp only[binOp,ne_eq,not_true_eq_false,if_false,Op.intCmp,Sem.run_pure]⟩
 case leq=>exact⟨_,_,h,fun p w=>by simp only[binOp,ne_eq,not_true_eq_false,if_false,Op.intCmp,Sem.run_pure]⟩
 case gtr=>exact⟨_,_,h,fun p w=>by simp only[binOp,ne_eq,not_true_eq_false,if_false,Op.intCmp,Sem.run_pure]⟩
 case geq=>exact⟨_,_,h,fun p w=>by simp only[binOp,ne_eq,not_true_eq_false,if_false,Op.intCmp,Sem.run_pure]⟩
 all_goals exact h.elim
def wH(op:BinOp)(k:IntKind)(a b:Int)(K:Prop→AV→Prop):Prop:=match op with
 | .shr=>K (0≤a∧dD k a∧0≤b) (.val (.int k (a/2^b.toNat)))
 | .shl=>ar k (a*2^b.toNat) fun Φ v=>K (Φ∧0≤b∧b≤k.bits) v
 | _=>False
theorem DW {op : BinOp} {k k' : IntKind} {a b : Int} {K : Prop → AV → Prop} (T : TypeId) (h : wH op k a b K) :
    ∃Φ u,K Φ (.val u)∧(Φ→∀w,(binOp op T (.int k a) (.int k' b)).run P w= .ok u w):=by
 cases op<;>simp only[wH] at h
 case shl=>
  obtain⟨Φ,m,h1,h2⟩:=rE h
  refine⟨_,_,h1,fun p w=> ?_⟩
  obtain⟨p1,p2,p3⟩:=p
  have hb:¬b<0:=by omega
  have e:min b.toNat k.bits=b.toNat:=by omega
  simp[binOp,Op.shift,hb,e,h2 p1]
 case shr=>
  refine⟨_,_,h,fun p w=> ?_⟩
  obtain⟨p1,p2,p3⟩:=p
  have hb:¬b<0:=by omega
  have e:a.fdiv (2^min b.toNat k.bits)=a/2^b.toNat:=by
   rw[Int.fdiv_eq_ediv_of_nonneg _ (by have:=Int.pow_pos (n:=2) (m:=min b.toNat k.bits) (by decide);omega)]
   by_cases hle:b.toNat≤k.bits
   ·rw[Nat.min_eq_left hle]
   ·rw[Nat.min_eq_right (by omega)]
    have ah:=oI p2 p1
    have h1:a<2^k.bits:=by
     have:((a.toNat:Nat):Int)< ((2^k.bits:Nat):Int):=by exact_mod_cast ah
     rw[Int.toNat_of_nonneg p1] at this
     simpa using this
    have h2:(2:Int)^k.bits≤2^b.toNat:=by
     have:(2^k.bits:Nat)≤2^b.toNat:=Nat.pow_le_pow_right (by decide) (by omega)
     exact_mod_cast this
    rw[Int.ediv_eq_zero_of_lt p1 h1,Int.ediv_eq_zero_of_lt p1 (by omega)]
  simp[binOp,Op.shift,hb,e]
 all_goals exact h.elim

set_option linter.unusedVariables false
set_option linter.unusedSimpArgs false
def aM:List J→List (Nat×J)→List J
 | H,[]=>H
 | H,(r,e)::us=>aM (aJ H r e) us
def Hb(E:Env)(H:List J)(b:Nat):Prop:=∃(r0:Nat)(e0:J),H[r0]? =some e0∧aB E r0 e0 b
structure Out(E E':Env)(w w':World)(H:List J)(us:List (Nat×J)):Prop where
 ext:Ext E E' w w'
 hr:HR E' w' (aM H us)
 os:w'.os=w.os
 tape:w'.tape=w.tape
 output:w'.output=w.output
 size:w.heap.size≤w'.heap.size
 aC:∀z b,E'.aC z b→E.aC z b∨w.heap.size≤b∨Hb E H b
 grow:∀(k:Nat) cur T fz,w.heap[k]? =some (.cells cur T fz)→∃cW T' eS,w'.heap[k]? =some (.cells cW T' eS)∧cur.size≤cW.size
 block:∀k,k<w.heap.size→(∀(r:Nat)(e:J),H[r]? =some e→aB E r e k→r∉us.map (·.1))→w'.heap[k]? =w.heap[k]?
 rows:∀(r:Nat)(e:J)(b:Nat),(aM H us)[r]? =some e→aB E' r e b→w.heap.size≤b∨∃(r0:Nat)(e0:J),H[r0]? =some e0∧aB E r0 e0 b∧(r0=r∨r0∈us.map (·.1))
theorem Out.same{E:Env}{w:World}{H:List J}(h:HR E w H):Out E E w w H []:=
 ⟨Ext.refl _ _,h,rfl,rfl,rfl,Nat.le_refl _,fun _ _ h=> .inl h,fun _ cur T fz h=>⟨cur,T,fz,h,Nat.le_refl _⟩,fun _ _ _=>rfl,fun r e b hr hl=> .inr ⟨r,e,hr,hl,.inl rfl⟩⟩
theorem HR.drew{E:Env}{w:World}{H:List J}(h:HR E w H):HR E w.drew H:=by
 have X:Ext E E w w.drew:=⟨fun _=>Nat.le_refl _,fun _ _=>rfl,fun _ _=>Iff.rfl,fun _ _ h=>h,fun _ _ _=>rfl,fun _ cur T fz h=>⟨cur,T,fz,h,Nat.le_refl _⟩,fun _ _ _ _ h=>h⟩
 exact⟨h.ver,fun r e hr hl=>(h.bS r e hr hl).ext X rfl,h.abs,h.inj,h.cX,h.dC,h.top,h.gl.ext X,fun r v ls hr=>(h.az r v ls hr).mL fun _ _ _=>rfl⟩
theorem Fr.out{w0:World}{keep:Nat→Prop}{E E':Env}{w w':World}{H:List J}{us:List (Nat×J)}(h:Fr w0 keep E H w)(o:Out E E' w w' H us):Fr w0 keep E' (aM H us) w':=by
 refine⟨o.os.trans h.os,o.tape.trans h.tape,o.output.trans h.output,Nat.le_trans h.size o.size,fun k hk kG=> ?_,fun k cur T fz hk=> ?_,fun r e b hr hl ah=> ?_⟩
 ·rw[o.block k (Nat.lt_of_lt_of_le hk h.size) (fun r e hr hl _=>h.rows r e k hr hl hk kG)]
  exact h.block k hk kG
 ·obtain⟨c1,T1,f1,h1,h2⟩:=h.grow k cur T fz hk
  obtain⟨c2,T2,f2,h3,h4⟩:=o.grow k c1 T1 f1 h1
  exact⟨c2,T2,f2,h3,Nat.le_trans h2 h4⟩
 ·rcases o.rows r e b hr hl with h1 | ⟨r0,e0,h2,h3,_⟩
  ·have:=h.size;omega
  ·exact h.rows r0 e0 b h2 h3 ah
def Env.set(E:Env)(r b v:Nat):Env:={E with ρ:=fun k=>if k=r then b else E.ρ k,ver:=fun k=>if k=r then v else E.ver k,abs:=fun k=>if k=r then False else E.abs k}
theorem Env.oK(E:Env)(r b v:Nat):¬(E.set r b v).abs r:=by simp[Env.set]
theorem Env.wI(E:Env){r k:Nat}(b v:Nat)(h:k≠r):(E.set r b v).abs k=E.abs k:=by simp[Env.set,h]
theorem Env.ln(E:Env)(r b v:Nat):(E.set r b v).ρ r=b:=by simp[Env.set]
theorem Env.kH(E:Env)(r b v:Nat):(E.set r b v).ver r=v:=by simp[Env.set]
theorem Env.ze(E:Env){r k:Nat}(b v:Nat)(h:k≠r):(E.set r b v).ρ k=E.ρ k:=by simp[Env.set,h]
theorem Env.zf(E:Env){r k:Nat}(b v:Nat)(h:k≠r):(E.set r b v).ver k=E.ver k:=by simp[Env.set,h]
theorem Env.wJ(E:Env){r b v:Nat}(hb:b=E.ρ r)(hv:v=E.ver r)(ha:¬E.abs r):E.set r b v=E:=by
 cases E with
 | mk ρ ver aC abs pl=>
  simp only[Env.set,Env.mk.injEq,true_and,and_true]
  refine⟨funext fun k=> ?_,funext fun k=> ?_,funext fun k=> ?_⟩<;>split<;>simp_all
theorem Out.one {E : Env} {w w' : World} {H : List J} {r0 b v' : Nat} {e0 : J} {bd' : Bd} (hr : HR E w H) (h0 : H[r0]? = some e0) (hP : bd'.gY = false) (hv : v' = e0.ver ∧ b = E.ρ r0 ∧ ¬ E.abs r0 ∨ e0.ver < v')
    (hb:b=E.ρ r0∧bN E r0 e0∨w.heap.size≤b) (os:w'.os=w.os) (tape:w'.tape=w.tape) (output:w'.output=w.output) (size:w.heap.size≤w'.heap.size)
    (aQ:∀k,k<w.heap.size→k≠b→w'.heap[k]? =w.heap[k]?)
    (sz:∀cur T fz,w.heap[b]? =some (.cells cur T fz)→∃cW T' eS,w'.heap[b]? =some (.cells cW T' eS)∧cur.size≤cW.size)
    (bS:Ext E (E.set r0 b v') w w'→fm (E.set r0 b v') w' b bd'):Out E (E.set r0 b v') w w' H [(r0,⟨v',bd'⟩)]:=by
 have gu:=hr.ver r0 e0 h0
 have nL:r0<H.length:=(List.getElem?_eq_some_iff.1 h0).1
 have DX:∀z c,E.aC z c→c≠b:=by
  intro z c hz e
  subst e
  rcases hb with⟨h1,h2⟩ | h1
  ·exact hr.wF r0 e0 h0 h2 z (h1▸hz)
  ·have:=hr.cX z c hz;omega
 have gr:∀(k:Nat) cur T fz,w.heap[k]? =some (.cells cur T fz)→∃cW T' eS,w'.heap[k]? =some (.cells cW T' eS)∧cur.size≤cW.size:=fun k cur T fz hk=>by
  by_cases h:k=b
  ·subst h;exact sz cur T fz hk
  ·exact⟨cur,T,fz,by rw[aQ k (Array.getElem?_eq_some_iff.1 hk).1 h];exact hk,Nat.le_refl _⟩
 have X:Ext E (E.set r0 b v') w w':=by
  refine⟨fun r=> ?_,fun r e=> ?_,fun r e=> ?_,fun z c h=>h,fun z c hz=>aQ c (hr.cX z c hz) (DX z c hz),gr,fun _ _ _ _ h=>h⟩
  ·by_cases h:r=r0
   ·subst h;rw[Env.kH,gu];rcases hv with h | h<;>omega
   ·rw[Env.zf E b v' h];exact Nat.le_refl _
  ·by_cases h:r=r0
   ·subst h;rw[Env.kH] at e;rw[Env.ln];rcases hv with h | h
    ·exact h.2.1
    ·omega
   ·rw[Env.ze E b v' h]
  ·by_cases h:r=r0
   ·subst h;rw[Env.kH] at e;rcases hv with h | h
    ·exact⟨fun q=>absurd q (Env.oK E r b v'),fun q=>absurd q h.2.2⟩
    ·omega
   ·rw[Env.wI E b v' h]
 have aI:∀(r:Nat)(e:J),(aM H [(r0,⟨v',bd'⟩)])[r]? =some e→r=r0∧e=⟨v',bd'⟩∨r≠r0∧H[r]? =some e:=by
  intro r e h
  simp only[aM,bK] at h
  by_cases jQ:r=r0
  ·subst jQ;rw[List.getElem?_set_self nL] at h;exact .inl ⟨rfl,(Option.some.inj h).symm⟩
  ·rw[List.getElem?_set_ne (Ne.symm jQ)] at h;exact .inr ⟨jQ,h⟩
 have aG:∀(r:Nat)(e:J),r≠r0→H[r]? =some e→¬aB E r e b:=by
  intro r e h1 h2 h3
  rcases hb with⟨h5,h6⟩ | h5
  ·exact h1 (hr.inj r r0 e e0 b h2 h0 h3 (.inl ⟨h6,h5.symm⟩))
  ·have:=hr.blt h2 h3;omega
 have b9:∀(r:Nat)(e:J),r≠r0→bN (E.set r0 b v') r e→bN E r e:=fun r e h1 h2=>⟨h2.1,fun q=>h2.2 (by rw[Env.wI E b v' h1];exact q)⟩
 have hblk:∀(r:Nat)(e:J)(c:Nat),r≠r0→aB (E.set r0 b v') r e c→aB E r e c:=fun r e c h1 h2=>by
  rcases h2 with⟨h2,h3⟩ | h2
  ·exact .inl ⟨b9 r e h1 h2,by rwa [Env.ze E b v' h1] at h3⟩
  ·exact .inr h2
 have wK:∀c,aB (E.set r0 b v') r0 ⟨v',bd'⟩ c→c=b:=fun c h=>by
  rcases h with⟨_,h3⟩ | ⟨h2,_⟩
  ·rw[Env.ln] at h3;exact h3.symm
  ·rw[hP] at h2;cases h2
 refine⟨X,⟨?_,?_,?_,?_,?_,?_,?_,hr.gl.ext X,?_⟩,os,tape,output,size,fun _ _ h=> .inl h,gr,?_,?_⟩
 ·intro r e h
  rcases aI r e h with⟨rfl,rfl⟩ | ⟨h1,h2⟩
  ·rw[Env.kH]
  ·rw[Env.zf E b v' h1];exact hr.ver r e h2
 ·intro r e h hl
  rcases aI r e h with⟨rfl,rfl⟩ | ⟨h1,h2⟩
  ·rw[Env.ln];exact bS X
  ·rw[Env.ze E b v' h1]
   have hl:=b9 r e h1 hl
   exact(hr.bS r e h2 hl).ext X (aQ _ (hr.lt h2 hl) (fun q=>aG r e h1 h2 (q▸aB.of hl)))
 ·intro r e h ha
  rcases aI r e h with⟨rfl,rfl⟩ | ⟨h1,h2⟩
  ·exact absurd ha (Env.oK E r b v')
  ·rw[Env.wI E b v' h1] at ha;exact hr.abs r e h2 ha
 ·intro r r' e e' c h h' hl bA
  rcases aI r e h with⟨rfl,rfl⟩ | ⟨h1,h2⟩<;>rcases aI r' e' h' with⟨rfl,rfl⟩ | ⟨h3,h4⟩
  ·rfl
  ·have:=wK c hl;subst this;exact absurd (hblk r' e' _ h3 bA) (aG r' e' h3 h4)
  ·have:=wK c bA;subst this;exact absurd (hblk r e _ h1 hl) (aG r e h1 h2)
  ·exact hr.inj r r' e e' c h2 h4 (hblk r e c h1 hl) (hblk r' e' c h3 bA)
 ·exact fun z c h=>Nat.lt_of_lt_of_le (hr.cX z c h) size
 ·intro r e c h hl z hz
  rcases aI r e h with⟨rfl,rfl⟩ | ⟨h1,h2⟩
  ·exact DX z c hz (wK c hl)
  ·exact hr.dC r e c h2 (hblk r e c h1 hl) z hz
 ·intro r h
  simp only[aM,bK,List.length_set] at h
  have aG:r≠r0:=by omega
  rw[Env.zf E b v' aG,Env.wI E b v' aG]
  exact hr.top r h
 ·intro r v ls h
  rcases aI r _ h with⟨rfl,h1⟩ | ⟨h1,h2⟩
  ·cases h1;cases hP
  ·exact(hr.az r v ls h2).mL fun i c hc=>aQ c ((hr.az r v ls h2).lt hc) (fun q=>aG r _ h1 h2 (q▸.inr ⟨rfl,i,hc⟩))
 ·intro k hk h
  by_cases eT:k=b
  ·exfalso
   rcases hb with⟨h1,h2⟩ | h1
   ·exact h r0 e0 h0 (.inl ⟨h2,by omega⟩) (by simp)
   ·omega
  ·exact aQ k hk eT
 ·intro r e c h hl
  rcases aI r e h with⟨rfl,rfl⟩ | ⟨h1,h2⟩
  ·have:=wK c hl
   subst this
   rcases hb with⟨h1,h2⟩ | h1
   ·exact .inr ⟨r,e0,h0,.inl ⟨h2,h1.symm⟩,.inl rfl⟩
   ·exact .inl h1
  ·exact .inr ⟨r,e,h2,hblk r e c h1 hl,.inl rfl⟩

set_option linter.unusedVariables false
set_option linter.unusedSimpArgs false
def aR:Op→List Operand
 | .move x | .assign x | .box _ x | .load _ x | .nilCheck x | .unOp _ _ x | .convert _ _ x | .sliceToArrayPointer _ x | .fieldAddr _ x _ | .field _ x _ | .extract x _=>[x]
 | .pick c a b=>[c,a,b]
 | .build _ ps | .buildSlice _ _ ps=>ps.toList.map (·.2)
 | .store _ a v | .binOp _ _ a v _ | .makeSlice _ a v | .indexAddr _ a v | .index _ a v=>[a,v]
 | .makeFunc _ first captured=>captured.toList
 | .slice _ x l h m=>x::(l.toList++(h.toList++m.toList))
 | .call c=>(match c.callee with | .value f=>[f] | _=>[])++c.args.toList
 | _=>[]
def zg(P:Program)(o:Oper)(al:Operand→Value)(w:World)(cv:Value)(w':World):Prop:=
 (execOp al o).run P w= .ok (.value cv) w'∨((execOp al o).run P w= .ok .skip w'∧cv=undef)
def bm(P:Program)(o:Oper)(ev:Operand→AV)(hg:Nat→Option J)(Φ:Prop)(v:AV)(us:List (Nat×J)):Prop:=
 Φ→∀(E:Env)(H:List J)(w:World)(al:Operand→Value),HR E w H→(∀(r:Nat)(e:J),hg r=some e→H[r]? =some e)→(∀x∈aR o.op,ae E w (ev x) (al x))→
  ∃cv w' E',zg P o al w cv w'∧ae E' w' v cv∧Out E E' w w' H us
section
variable {P:Program} {o:Oper} {ev:Operand→AV} {hg:Nat→Option J}
theorem bm.pure {Φ : Prop} {v : AV} (h : Φ → ∀ (E : Env) (H : List J) (w : World) (al : Operand → Value), HR E w H → (∀ (r : Nat) (e : J), hg r = some e → H[r]? = some e) → (∀ x ∈ aR o.op, ae E w (ev x) (al x)) →
    ∃cv,(execOp al o).run P w= .ok (.value cv) w∧ae E w v cv):bm P o ev hg Φ v []:=
 fun p E H w al hr hh hx=>let⟨cv,h1,h2⟩:=h p E H w al hr hh hx;⟨cv,w,E,.inl h1,h2,Out.same hr⟩

theorem bq{E:Env}{w:World}{u v:Value}(h:ae E w (.val u) v):v=u:=by rwa [ae] at h
theorem HR.cells {E : Env} {w : World} {H : List J} (hr : HR E w H) {r : Nat} {e : J} (h : H[r]? = some e) {i : Nat} {ys : List AV} (hy : e.bd.at i = some ys) :
    ∃cs,cs.length=e.bd.sz∧aq E w ys cs∧∀j u,cs[j]? =some u→w.cell? ⟨E.ρ r,i*e.bd.sz+j,none⟩=some u:=by
 have hc:e.bd.jq=true:=by cases hb:e.bd<;>simp[Bd.jq]<;>simp[hb,Bd.at] at hy
 have hl:=Bd.rC hc
 have br:¬E.abs r:=fun q=>by have:=hr.abs r e h q;have:=Bd.nK hy;omega
 obtain⟨cur,T,lo,hi,h1,h2,h3,h4⟩:=(hr.bS r e h ⟨hl,br⟩).aQ hc
 obtain⟨cs,h5,h6,h7⟩:=h4 i ys hy
 exact⟨cs,h5,h6,fun j u hu=>by rw[cell_of_row w _ _ cur T (lo,hi) h1];exact h7 j u hu⟩

theorem HR.wL {E : Env} {w : World} {H : List J} (hr : HR E w H) {r v0 : Nat} {ls : List (List UInt8)} (he : H[r]? = some ⟨v0, .az ls⟩) {ver i off n : Nat} {l : List UInt8} (hl : ls[i]? = some l) (hle : off + n ≤ l.length) (gu : ver = v0) {v : Value} (hv : ae E w (.pl r ver i off n) v) :
    ∃a c,v= .slice a n c∧n≤c∧c≤maxLen∧(a=none→c=0)∧∀(j:Nat)(x:UInt8),((l.drop off).take n)[j]? =some x→∃b,E.pl r i=some b∧a=some ⟨b,off,none⟩∧w.cell? ⟨b,off+j,none⟩=some (bv x):=by
 rw[ae] at hv
 obtain⟨a,c,h1,h2,h3,h4,h5⟩:=hv.2 (gu.trans (hr.ver r _ he).symm)
 refine⟨a,c,h1,h2,h3,h4,fun j x hx=> ?_⟩
 rw[List.getElem?_take] at hx
 split at hx
 rotate_left
 ·cases hx
 rename_i hj
 obtain⟨b,h6,h7,_⟩:=h5.resolve_left (by omega)
 obtain⟨cur,T,lo,hi,g1,_,_,g4⟩:=(hr.az r v0 ls he).aQ i l b hl h6
 refine⟨b,h6,h7,?_⟩
 rw[cell_of_row w _ _ cur T (lo,hi) g1]
 rw[List.getElem?_drop] at hx
 exact g4 _ x hx

def oL(ti:TI)(cs:List AV)(K:Prop→AV→Prop):Prop:=
 match ti.u with
 | .other=>False
 | .struct _=>K (ti.sz≤cs.length) (.agg (dw cs ti.sz))
 | .array _ _=>K (ti.sz≤cs.length) (.agg (dw cs ti.sz))
 | _=>match cs with
  | x::_=>K True x
  | []=>False
theorem bj.sizeOf{T:TypeId}{ti:TI}(h:bj P T ti)(w:World):(sizeOf T).run P w= .ok ti.sz w:=by
 obtain⟨z,hz,_⟩:=h.info
 obtain⟨i,hi,h1,h2,h3⟩:=info_parts hz
 simp[Go.sizeOf,typeInfo,hi,h2]
theorem bj.Kg{T:TypeId}{ti:TI}(h:bj P T ti)(hu:ti.u.isAgg=true):rF P T ti.sz:=by
 obtain⟨z,hz,_⟩:=h.info
 obtain⟨i,hi,h1,h2,h3⟩:=info_parts hz
 have hk:=h.u
 refine⟨?_,by rw[hi];simp[h2]⟩
 cases hq:ti.u<;>simp[hq,UK.isAgg] at hu<;>rw[hq] at hk<;>simp only[UK.ok] at hk
 ·rw[hk]
 ·obtain⟨f,hf,_⟩:=hk;rw[hf]
theorem bj.DY{T:TypeId}{ti:TI}(h:bj P T ti)(hu:ti.u.isAgg=false)(ho:ti.u≠.other)(w:World):(isAgg T).run P w= .ok false w:=by
 have hk:=h.u
 unfold Go.isAgg
 cases hq:ti.u<;>rw[hq] at hk hu ho<;>simp only[UK.ok] at hk<;>simp[UK.isAgg] at hu ho
 case func=>obtain⟨a,b,c,hk⟩:=hk;rw[Sem.run_bind,run_underlying hk w];rfl
 all_goals (rw[Sem.run_bind,run_underlying hk w];rfl)
theorem rG{E:Env}{w:World}:∀(n:Nat){xs:List AV}{vs:List Value},aq E w xs vs→aq E w (xs.drop n) (vs.drop n)
 | 0,_,_,h=>h
 | n+1,[],vs,h=>by rw[aq] at h;subst h;simp[aq]
 | n+1,x::xs,vs,h=>by
  rw[aq] at h
  obtain⟨v,dm,rfl,h1,h2⟩:=h
  simpa using rG n h2
theorem wM{E:Env}{w:World}:∀(n:Nat){xs:List AV}{vs:List Value},aq E w xs vs→aq E w (xs.take n) (vs.take n)
 | 0,_,_,h=>by simp[aq]
 | n+1,[],vs,h=>by rw[aq] at h;subst h;simp[aq]
 | n+1,x::xs,vs,h=>by
  rw[aq] at h
  obtain⟨v,dm,rfl,h1,h2⟩:=h
  simp only[List.take_succ_cons]
  rw[aq]
  exact⟨v,_,rfl,h1,wM n h2⟩
theorem rH {T : TypeId} {ti : TI} {cells : List AV} {j : Nat} {K : Prop → AV → Prop} (ht : bj P T ti) (h : oL ti (dc cells j) K) :
    ∃Φ v,K Φ v∧(Φ→∀(E:Env)(w:World)(cs:List Value),aq E w cells cs→∃cv,ae E w v cv∧(part T cs.toArray j).run P w= .ok cv w∧
     ∀(b o:Nat),(∀j u,cs[j]? =some u→w.cell? ⟨b,o+j,none⟩=some u)→(loadVar T ⟨b,o+j,none⟩).run P w= .ok cv w):=by
 rw[jr] at h
 have key:(∃Φ v,K Φ v∧(Φ→ti.u.isAgg=true∧ti.sz≤(cells.drop j).length∧v= .agg (dw (cells.drop j) ti.sz)∨ti.u.isAgg=false∧ti.u≠.other∧(cells.drop j).head? =some v)):=by
  unfold oL at h
  split at h
  ·exact h.elim
  ·rename_i hu;exact⟨_,_,h,fun p=> .inl ⟨by rw[hu];rfl,p,rfl⟩⟩
  ·rename_i hu;exact⟨_,_,h,fun p=> .inl ⟨by rw[hu];rfl,p,rfl⟩⟩
  ·rename_i h1 h2 h3
   split at h
   ·rename_i x xs hx
    refine⟨_,_,h,fun _=> .inr ⟨?_,h1,by rw[hx];rfl⟩⟩
    cases hq:ti.u<;>simp_all [UK.isAgg]
   ·exact h.elim
 obtain⟨Φ,v,hK,hv⟩:=key
 refine⟨Φ,v,hK,fun p E w cs hc=> ?_⟩
 rcases hv p with⟨h1,h2,rfl⟩ | ⟨h1,h2,h3⟩
 ·have A:=ht.Kg h1
  have hd:=wM ti.sz (rG j hc)
  have hlen:=(eX (rG j hc)).1
  have hl:((cs.drop j).take ti.sz).length=ti.sz:=by rw[List.length_take];omega
  rw[js]
  refine⟨.agg ((cs.drop j).take ti.sz).toArray,by rw[ae];exact⟨_,rfl,hd⟩,?_,fun b o cT=>Kh A hl (fun k u hu=> ?_)⟩
  rotate_left
  ·rw[Addr.add_lit]
   rw[List.getElem?_take] at hu
   split at hu
   ·rw[List.getElem?_drop] at hu
    rw[Nat.add_assoc]
    exact cT _ u hu
   ·cases hu
  ·unfold part
   have e:cs.toArray.extract j (j+ti.sz)=((cs.drop j).take ti.sz).toArray:=by
    apply Array.ext';simp
   simp only[Sem.run_bind,A.isAgg,A.sizeOf,Result.andThen_ok,if_true,Sem.run_pure,e]
 ·obtain⟨u,hu,hr⟩:=(eX (rG j hc)).2 0 v (by rw[←List.head?_eq_getElem?];exact h3)
  rw[List.getElem?_drop,Nat.add_zero] at hu
  refine⟨u,hr,?_,fun b o cT=> ?_⟩
  ·unfold part
   simp[Sem.run_bind,ht.DY h1 h2,hu]
  ·unfold loadVar
   simp[Sem.run_bind,ht.DY h1 h2,cT j u hu]

def wN(bd:Bd)(sz i:Nat)(K:Prop→List AV→Prop):Prop:=match bd with
 | .dead=>False
 | .bytes l=>K (sz=1∧i<l.length) [.val (.int .u8 (l.getD i 0).toNat)]
 | .row sz' f d l=>K (sz=sz'∧i<l.length) (f (l.getD i d))
 | .obj l=>K (i=0) l
 | .lp .. =>False
 | .az _=>False
theorem DZ{bd:Bd}{sz i:Nat}{K:Prop→List AV→Prop}(h:wN bd sz i K):∃Φ ys,K Φ ys∧(Φ→bd.at i=some ys∧i*sz=i*bd.sz):=by
 cases bd<;>simp only[wN] at h
 ·refine⟨_,_,h,fun p=>⟨?_,by rw[p.1];rfl⟩⟩
  simp[Bd.at,p.2,bv,List.getD]
 ·refine⟨_,_,h,fun p=>⟨?_,by rw[p.1];rfl⟩⟩
  simp[Bd.at,p.2,List.getD]
 ·exact⟨_,_,h,fun p=>⟨by simp[Bd.at,p],by simp[p]⟩⟩
def zh(tb:TypeId→Option TI)(hg:Nat→Option J)(T:TypeId)(x:AV)(K:KF):Prop:=
 match tb T with
 | none=>False
 | some ti=>match x with
  | .ref r ver sz i j=>match hg r with
   | none=>False
   | some e=>wN e.bd sz i fun Φ cells=>oL ti (dc cells j) fun Ψ v=>K (ver=e.ver∧Φ∧Ψ) v []
  | .cp _ cells j=>oL ti (dc cells j) fun Ψ v=>K Ψ v []
  | .iQ r ver i k=>match hg r with
   | none=>False
   | some e=>match e.bd with
    | .az ls=>oL ti [.val (.int .u8 ((ls.getD i []).getD k 0).toNat)] fun Ψ v=>K (ver=e.ver∧i<ls.length∧k< (ls.getD i []).length∧Ψ) v []
    | _=>False
  | _=>False
theorem Ki{tb:TypeId→Option TI}(ay:cD P tb){T:TypeId}{x:Operand}(ho:o.op= .load T x){K:KF}(h:zh tb hg T (ev x) K):∃Φ v us,K Φ v us∧bm P o ev hg Φ v us:=by
 unfold zh at h
 split at h
 ·exact h.elim
 rename_i ti bT
 have ht:=ay T ti bT
 split at h
 ·rename_i r ver sz i j hx
  split at h
  ·exact h.elim
  rename_i e he
  obtain⟨Φ,ys,h,hb⟩:=DZ h
  obtain⟨Ψ,v,h,hl⟩:=rH ht h
  refine⟨_,v,[],h,bm.pure fun p E H w al hr hh au=> ?_⟩
  obtain⟨p1,p2,p3⟩:=p
  have hv:=au x (by rw[ho];simp[aR])
  rw[hx,ae] at hv
  have hH:=hh r e he
  have dx:=hv.2 (p1.trans (hr.ver r e hH).symm)
  obtain⟨ek,kI⟩:=hb p2
  obtain⟨cs,h5,h6,h7⟩:=hr.cells hH ek
  obtain⟨cv,iR,_,eL⟩:=hl p3 E w cs h6
  have eL:=eL (E.ρ r) (i*e.bd.sz) h7
  refine⟨cv,?_,iR⟩
  rw[kI] at dx
  exact zi ho dx eL
 ·rename_i z cells j hx
  obtain⟨Ψ,v,h,hl⟩:=rH ht h
  refine⟨_,v,[],h,bm.pure fun p E H w al hr hh au=> ?_⟩
  have hv:=au x (by rw[ho];simp[aR])
  rw[hx,ae] at hv
  obtain⟨b,o',cs,dx,_,h6,h7⟩:=hv
  obtain⟨cv,iR,_,eL⟩:=hl p E w cs h6
  have eL:=eL b o' h7
  exact⟨cv,zi ho dx eL,iR⟩
 ·rename_i r ver i k hx
  split at h
  ·exact h.elim
  rename_i e he
  split at h
  rotate_left
  ·exact h.elim
  rename_i ls hb
  obtain⟨Ψ,v,h,hl⟩:=rH (cells:=[.val (.int .u8 ((ls.getD i []).getD k 0).toNat)]) (j:=0) ht h
  refine⟨_,v,[],h,bm.pure fun p E H w al hr hh au=> ?_⟩
  obtain⟨p1,p2,p3,p4⟩:=p
  have hv:=au x (by rw[ho];simp[aR])
  rw[hx,ae] at hv
  have hH:=hh r e he
  obtain⟨b,h1,dx⟩:=hv.2 (p1.trans (hr.ver r e hH).symm)
  have dN:H[r]? =some ⟨e.ver,.az ls⟩:=by rw[hH,←hb]
  have eD:ls[i]? =some (ls.getD i []):=by simp[List.getD,p2]
  obtain⟨cur,T0,lo,hi,g1,_,_,g4⟩:=(hr.az r _ ls dN).aQ i _ b eD h1
  have g5:=g4 k ((ls.getD i []).getD k 0) (by simp only[List.getD_eq_getElem?_getD];rw[List.getElem?_eq_getElem (by simpa [List.getD_eq_getElem?_getD] using p3)];simp)
  obtain⟨cv,iR,_,eL⟩:=hl p4 E w [bv ((ls.getD i []).getD k 0)] (by simp only[aq,ae];exact⟨_,_,rfl,rfl,rfl⟩)
  have eL:=eL b k (fun j u hu=>by
   cases j with
   | zero=>simp at hu;subst hu;rw[cell_of_row w _ _ cur T0 (lo,hi) g1];exact g5
   | succ j=>simp at hu)
  exact⟨cv,zi ho dx eL,iR⟩
 ·exact h.elim

def hJ(hg:Nat→Option J)(r ver:Nat)(K:Prop→Prop):Prop:=match hg r with
 | none=>False
 | some e=>K (ver=e.ver)
theorem jR{r ver:Nat}{K:Prop→Prop}(h:hJ hg r ver K):∃Φ,K Φ∧(Φ→∀(E:Env)(H:List J)(w:World),HR E w H→(∀(r:Nat)(e:J),hg r=some e→H[r]? =some e)→ver=E.ver r):=by
 unfold hJ at h
 split at h
 ·exact h.elim
 ·rename_i e he
  exact⟨_,h,fun p E H w hr hh=>p.trans (hr.ver r e (hh r e he)).symm⟩
def zj(hg:Nat→Option J)(x:AV)(K:KF):Prop:=match x with
 | .ref r ver sz i j=>hJ hg r ver fun Φ=>K Φ (.ref r ver sz i j) []
 | .cp z cells j=>K True (.cp z cells j) []
 | .clo f caps=>K True (.clo f caps) []
 | .val (.pointer none)=>K False .any []
 | _=>False
theorem Kj{x:Operand}(ho:o.op= .nilCheck x){K:KF}(h:zj hg (ev x) K):∃Φ v us,K Φ v us∧bm P o ev hg Φ v us:=by
 unfold zj at h
 split at h
 ·rename_i r ver sz i j hx
  obtain⟨Φ,h,hc⟩:=jR h
  refine⟨Φ,_,[],h,bm.pure fun p E H w al hr hh au=> ?_⟩
  have hv:=au x (by rw[ho];simp[aR])
  rw[hx] at hv
  refine⟨al x,?_,hv⟩
  rw[ae] at hv
  have dx:=hv.2 (hc p E H w hr hh)
  unfold execOp;simp only[ho,dx,Sem.run_pure]
 ·rename_i z cells j hx
  refine⟨_,_,[],h,bm.pure fun p E H w al hr hh au=> ?_⟩
  have hv:=au x (by rw[ho];simp[aR])
  rw[hx] at hv
  refine⟨al x,?_,hv⟩
  rw[ae] at hv
  obtain⟨b,o',cs,dx,_⟩:=hv
  unfold execOp;simp only[ho,dx,Sem.run_pure]
 ·rename_i f caps hx
  refine⟨_,_,[],h,bm.pure fun p E H w al hr hh au=> ?_⟩
  have hv:=au x (by rw[ho];simp[aR])
  rw[hx] at hv
  refine⟨al x,?_,hv⟩
  rw[ae] at hv
  obtain⟨cs,dx,_⟩:=hv
  unfold execOp;simp only[ho,dx,Sem.run_pure]
 ·exact⟨_,_,_,h,fun p=>p.elim⟩
 ·exact h.elim
def wO(tb:TypeId→Option TI)(T k:Nat)(K:Nat→TI→TypeId→Prop):Prop:=match tb T with
 | some ti=>match ti.u with
  | .struct fs=>match fs[k]? with
   | some (off,ft)=>match tb ft with
    | some fi=>K off fi ft
    | none=>False
   | none=>False
  | _=>False
 | none=>False
theorem D0 {tb : TypeId → Option TI} (ay : cD P tb) {T k : Nat} {K : Nat → TI → TypeId → Prop} (h : wO tb T k K) :
    ∃off fi ko f,K off fi f.type∧P.underlying T=some (.struct ko)∧ko[k]? =some f∧f.offset=off∧bj P f.type fi:=by
 unfold wO at h
 repeat (split at h;rotate_left;(try exact h.elim))
 all_goals (try exact h.elim)
 rename_i ti bT _ fs zk _ off ft hk _ fi pW
 have ht:=(ay T ti bT).u
 rw[zk] at ht
 obtain⟨ko,h1,h2⟩:=ht
 rw[←h2,List.getElem?_map] at hk
 obtain⟨f,hf,he⟩:=Option.map_eq_some_iff.1 hk
 cases he
 exact⟨_,fi,ko,f,h,h1,by simpa using hf,rfl,ay _ _ pW⟩
def D3(tb:TypeId→Option TI)(hg:Nat→Option J)(T:TypeId)(x:AV)(k:Nat)(K:KF):Prop:=
 wO tb T k fun off fi _=>match x with
  | .ref r ver sz i j=>hJ hg r ver fun Φ=>K (Φ∧fi.sz≠0) (.ref r ver sz i (j+off)) []
  | .cp z cells j=>K (fi.sz≠0) (.cp z cells (j+off)) []
  | _=>False
theorem Kk{tb:TypeId→Option TI}(ay:cD P tb){T:TypeId}{x:Operand}{k:Nat}(ho:o.op= .fieldAddr T x k){K:KF}(h:D3 tb hg T (ev x) k K):∃Φ v us,K Φ v us∧bm P o ev hg Φ v us:=by
 obtain⟨off,fi,ko,f,h,hu,hf,zm,pW⟩:=D0 ay h
 have bB:∀(w:World)(al:Operand→Value)(b o':Nat),fi.sz≠0→al x= .pointer (some ⟨b,o',none⟩)→(execOp al o).run P w= .ok (.value (.pointer (some ⟨b,o'+off,none⟩))) w:=by
  intro w al b o' hz hx
  unfold execOp
  simp only[ho,hx]
  unfold Instr.fieldAt fieldPlace
  simp[Sem.run_bind,run_underlying hu,hf,Instr.sureAddr,pW.sizeOf,hz,zm,Addr.add_lit]
 split at h
 ·rename_i r ver sz i j hx
  obtain⟨Φ,h,hc⟩:=jR h
  refine⟨_,_,[],h,bm.pure fun p E H w al hr hh au=> ?_⟩
  have hv:=au x (by rw[ho];simp[aR])
  rw[hx,ae] at hv
  have dx:=hv.2 (hc p.1 E H w hr hh)
  refine⟨_,bB w al _ _ p.2 dx,?_⟩
  rw[ae]
  exact⟨hv.1,fun _=>by rw[Nat.add_assoc]⟩
 ·rename_i z cells j hx
  refine⟨_,_,[],h,bm.pure fun p E H w al hr hh au=> ?_⟩
  have hv:=au x (by rw[ho];simp[aR])
  rw[hx,ae] at hv
  obtain⟨b,o',cs,dx,h1,h2,h3⟩:=hv
  refine⟨_,bB w al _ _ p dx,?_⟩
  rw[ae]
  exact⟨b,o',cs,by rw[Nat.add_assoc],h1,h2,h3⟩
 ·exact h.elim
end

set_option linter.unusedVariables false
set_option linter.unusedSimpArgs false
section
variable {P:Program} {o:Oper} {ev:Operand→AV} {hg:Nat→Option J}
def rI(tb:TypeId→Option TI)(E:TypeId)(K:Nat→Prop):Prop:=match tb E with
 | some ti=>K ti.sz
 | none=>False
theorem wP{tb:TypeId→Option TI}(ay:cD P tb){E:TypeId}{K:Nat→Prop}(h:rI tb E K):∃ti,K ti.sz∧bj P E ti:=by
 unfold rI at h
 split at h
 ·rename_i ti bT;exact⟨ti,h,ay _ _ bT⟩
 ·exact h.elim
def dy(k:IntKind):Int→List AV:=fun n=>[.val (.int k n)]
def mM(k:IntKind):List AV→Option (List Int)
 | []=>some []
 | .val (.int k' n)::l=>if k'=k then match mM k l with
     | some ns=>some (n::ns)
     | none=>none
  else none
 | _::_=>none
theorem pX{k:IntKind}:∀{l:List AV}{ns:List Int},mM k l=some ns→l=ns.map fun n=> .val (.int k n)
 | [],ns,h=>by simp[mM] at h;subst h;rfl
 | x::l,ns,h=>by
  unfold mM at h
  split at h
  ·cases h;rename_i h1;cases h1
  ·rename_i k' n l' h1
   cases h1
   split at h
   ·rename_i hk
    split at h
    ·rename_i UG gv
     cases h
     rw[pX gv,hk];rfl
    ·cases h
   ·cases h
  ·cases h
def zn:List AV→Option (IntKind×List Int)
 | .val (.int k n)::l=>match mM k (.val (.int k n)::l) with
  | some ns=>some (k,ns)
  | none=>none
 | _=>none
theorem D4{k:IntKind}{l:List AV}{ns:List Int}(h:zn l=some (k,ns)):l=ns.map fun n=> .val (.int k n):=by
 unfold zn at h
 split at h
 ·split at h
  ·rename_i gv
   cases h
   exact pX gv
  ·cases h
 ·cases h
def zo(tb:TypeId→Option TI)(hg:Nat→Option J)(T:TypeId)(x y:AV)(K:KF):Prop:=
 match tb T with
 | none=>False
 | some ti=>match y with
  | .val (.int k n)=>match ti.u with
   | .slice E=>rI tb E fun s=>match x with
    | .own r ver sz off m=>hJ hg r ver fun Φ=>K (Φ∧sz=s∧0≤n∧n<m) (.ref r ver sz (off+n.toNat) 0) []
    | .bs z l=>K (s=1∧0≤n∧n<l.length) (.cp z [.val (.int .u8 (l.getD n.toNat 0).toNat)] 0) []
    | .sl z sz f d l=>K (sz=s∧0≤n∧n<l.length) (.cp z (f (l.getD n.toNat d)) 0) []
    | .pl r ver i off m=>hJ hg r ver fun Φ=>K (Φ∧s=1∧0≤n∧n<m) (.iQ r ver i (off+n.toNat)) []
    | _=>False
   | .array m E=>rI tb E fun s=>match x with
    | .ref r ver sz i j=>hJ hg r ver fun Φ=>K (Φ∧0≤n∧n<m) (.ref r ver sz i (j+n.toNat*s)) []
    | .cp z cells j=>match zn cells with
     | some (kk,ns)=>K (0≤n∧n<m∧s=1∧j=0∧m≤ns.length) (.cp z [.val (.int kk (ns.getD n.toNat 0))] 0) []
     | none=>K (0≤n∧n<m) (.cp z cells (j+n.toNat*s)) []
    | _=>False
   | _=>False
  | _=>False
theorem run_indexAt_slice {T E : TypeId} {ti : TI} (hT : P.underlying T = some (.slice E)) (hE : bj P E ti) {k : IntKind} {n : Int} {m c b o' : Nat} (h0 : 0 ≤ n) (h1 : n < m) (w : World) :
    (Instr.indexAt T (.slice (some ⟨b,o',none⟩) m c) (.int k n)).run P w= .ok (.pointer (some ⟨b,o'+n.toNat*ti.sz,none⟩)) w:=by
 unfold Instr.indexAt
 simp[Sem.run_bind,asIntOf,run_underlying hT,h0,h1,hE.sizeOf,Addr.add_lit]
theorem run_indexAt_array {T E : TypeId} {ti : TI} {m : Nat} (hT : P.underlying T = some (.array m E)) (hE : bj P E ti) {k : IntKind} {n : Int} {b o' : Nat} (h0 : 0 ≤ n) (h1 : n < m) (w : World) :
    (Instr.indexAt T (.pointer (some ⟨b,o',none⟩)) (.int k n)).run P w= .ok (.pointer (some ⟨b,o'+n.toNat*ti.sz,none⟩)) w:=by
 unfold Instr.indexAt
 simp[Sem.run_bind,asIntOf,run_underlying hT,h0,h1,hE.sizeOf,Addr.add_lit,Instr.sureAddr]
theorem Kl{tb:TypeId→Option TI}(ay:cD P tb){T:TypeId}{x y:Operand}(ho:o.op= .indexAddr T x y){K:KF}(h:zo tb hg T (ev x) (ev y) K):∃Φ v us,K Φ v us∧bm P o ev hg Φ v us:=by
 unfold zo at h
 split at h
 ·exact h.elim
 rename_i ti bT
 have hT:=(ay T ti bT).u
 split at h
 rotate_left
 ·exact h.elim
 rename_i k n hy
 have iS:∀{E:Env}{w:World}{al:Operand→Value},(∀x∈aR o.op,ae E w (ev x) (al x))→ae E w (ev x) (al x)∧al y= .int k n:=by
  intro E w al au
  refine⟨au x (by rw[ho];simp[aR]),?_⟩
  have:=au y (by rw[ho];simp[aR])
  rw[hy] at this
  exact bq this
 have hex:∀{w:World}{al:Operand→Value}{v:Value},(Instr.indexAt T (al x) (al y)).run P w= .ok v w→(execOp al o).run P w= .ok (.value v) w:=by
  intro w al v hr
  unfold execOp
  simp only[ho,Sem.run_bind,hr,Result.andThen_ok,Sem.run_pure]
 split at h
 ·rename_i E hu
  rw[hu] at hT
  obtain⟨ei,h,hE⟩:=wP ay h
  split at h
  ·rename_i r ver sz off m hx
   obtain⟨Φ,h,hc⟩:=jR h
   refine⟨_,_,[],h,bm.pure fun p E' H w al hr hh au=> ?_⟩
   obtain⟨p1,p2,p3,p4⟩:=p
   obtain⟨hv,hn⟩:=iS au
   rw[hx,ae] at hv
   obtain⟨a,c,dR,h1,h2,iT,h3⟩:=hv.2 (hc p1 E' H w hr hh)
   have fW:c≠0:=by omega
   obtain⟨_,rfl,_⟩:=h3.resolve_left fW
   have bB:=run_indexAt_slice (k:=k) (c:=c) (b:=E'.ρ r) (o':=off*sz) (m:=m) hT hE p3 p4 w
   refine⟨_,hex (by rw[dR,hn];exact bB),?_⟩
   rw[ae]
   refine⟨hv.1,fun _=> ?_⟩
   rw[p2,Nat.add_mul,Nat.add_zero]
  ·rename_i z l hx
   refine⟨_,_,[],h,bm.pure fun p E' H w al hr hh au=> ?_⟩
   obtain⟨p1,p2,p3⟩:=p
   obtain⟨hv,hn⟩:=iS au
   rw[hx,ae] at hv
   obtain⟨a,m,c,dR,rfl,h1,h2,h3,h4⟩:=hv
   have ah:n.toNat<l.length:=by omega
   obtain⟨b,o',rfl,hz,cT⟩:=h4 n.toNat l[n.toNat] (List.getElem?_eq_getElem ah)
   have bB:=run_indexAt_slice (k:=k) (c:=c) (b:=b) (o':=o') (m:=l.length) hT hE p2 p3 w
   refine⟨_,hex (by rw[dR,hn];exact bB),?_⟩
   rw[ae]
   refine⟨b,o'+n.toNat,[bv l[n.toNat]],by rw[p1];simp,hz,?_,?_⟩
   ·simp only[aq,ae]
    exact⟨_,_,rfl,by simp[bv,List.getD,ah],rfl⟩
   ·intro j u hu
    cases j with
    | zero=>simp at hu;subst hu;exact cT
    | succ j=>simp at hu
  ·rename_i z sz α f d l hx
   refine⟨_,_,[],h,bm.pure fun p E' H w al hr hh au=> ?_⟩
   obtain⟨p1,p2,p3⟩:=p
   obtain⟨hv,hn⟩:=iS au
   rw[hx,ae] at hv
   obtain⟨a,m,c,dR,rfl,h1,h2,h3,h4⟩:=hv
   have ah:n.toNat<l.length:=by omega
   obtain⟨b,o',cs,rfl,hz,de,cA,cT⟩:=h4 n.toNat l[n.toNat] (List.getElem?_eq_getElem ah)
   have bB:=run_indexAt_slice (k:=k) (c:=c) (b:=b) (o':=o') (m:=l.length) hT hE p2 p3 w
   refine⟨_,hex (by rw[dR,hn];exact bB),?_⟩
   rw[ae]
   refine⟨b,o'+n.toNat*sz,cs,by rw[p1];simp,hz,?_,cT⟩
   simpa [List.getD,ah] using cA
  ·rename_i r ver i off m hx
   obtain⟨Φ,h,hc⟩:=jR h
   refine⟨_,_,[],h,bm.pure fun p E' H w al hr hh au=> ?_⟩
   obtain⟨p1,p2,p3,p4⟩:=p
   obtain⟨hv,hn⟩:=iS au
   rw[hx,ae] at hv
   obtain⟨a,c,dR,h1,h2,iT,h3⟩:=hv.2 (hc p1 E' H w hr hh)
   obtain⟨b,hb,rfl,_⟩:=h3.resolve_left (by omega)
   have bB:=run_indexAt_slice (k:=k) (c:=c) (b:=b) (o':=off) (m:=m) hT hE p3 p4 w
   refine⟨_,hex (by rw[dR,hn];exact bB),?_⟩
   rw[ae]
   refine⟨hv.1,fun _=>⟨b,hb,?_⟩⟩
   rw[p2,Nat.mul_one]
  ·exact h.elim
 ·rename_i m E hu
  rw[hu] at hT
  obtain⟨ei,h,hE⟩:=wP ay h
  split at h
  ·rename_i r ver sz i j hx
   obtain⟨Φ,h,hc⟩:=jR h
   refine⟨_,_,[],h,bm.pure fun p E' H w al hr hh au=> ?_⟩
   obtain⟨p1,p3,p4⟩:=p
   obtain⟨hv,hn⟩:=iS au
   rw[hx,ae] at hv
   have dx:=hv.2 (hc p1 E' H w hr hh)
   have bB:=run_indexAt_array (k:=k) (b:=E'.ρ r) (o':=i*sz+j) hT hE p3 p4 w
   refine⟨_,hex (by rw[dx,hn];exact bB),?_⟩
   rw[ae]
   exact⟨hv.1,fun _=>by rw[Nat.add_assoc]⟩
  ·rename_i z cells j hx
   split at h
   ·rename_i kk ns gv
    refine⟨_,_,[],h,bm.pure fun p E' H w al hr hh au=> ?_⟩
    obtain⟨p1,p2,p3,rfl,p5⟩:=p
    obtain⟨hv,hn⟩:=iS au
    rw[hx,ae] at hv
    obtain⟨b,o',cs,dx,hz,cA,cT⟩:=hv
    have bB:=run_indexAt_array (k:=k) (b:=b) (o':=o'+0) hT hE p1 p2 w
    refine⟨_,hex (by rw[dx,hn];exact bB),?_⟩
    have ah:n.toNat<ns.length:=by omega
    have de:cells[n.toNat]? =some (.val (.int kk ns[n.toNat])):=by rw[D4 gv];simp[ah]
    have UH:n.toNat<cs.length:=by rw[←(eX cA).1,D4 gv];simpa using ah
    obtain⟨u,hu,fo⟩:=(eX cA).2 _ _ de
    have lq:=bq fo
    rw[ae]
    refine⟨b,o'+n.toNat,[u],by rw[p3];simp,hz,?_,?_⟩
    ·simp only[aq,ae]
     exact⟨_,_,rfl,by rw[lq];simp[List.getD,ah],rfl⟩
    ·intro j v hv
     cases j with
     | zero=>simp at hv;subst hv;exact cT _ _ hu
     | succ j=>simp at hv
   refine⟨_,_,[],h,bm.pure fun p E' H w al hr hh au=> ?_⟩
   obtain⟨hv,hn⟩:=iS au
   rw[hx,ae] at hv
   obtain⟨b,o',cs,dx,hz,cA,cT⟩:=hv
   have bB:=run_indexAt_array (k:=k) (b:=b) (o':=o'+j) hT hE p.1 p.2 w
   refine⟨_,hex (by rw[dx,hn];exact bB),?_⟩
   rw[ae]
   exact⟨b,o',cs,by rw[Nat.add_assoc],hz,cA,cT⟩
  ·exact h.elim
 ·exact h.elim

def zp(tb:TypeId→Option TI)(T:TypeId)(x y:AV)(K:KF):Prop:=
 match tb T with
 | none=>False
 | some ti=>match y with
  | .val (.int k n)=>match ti.u with
   | .string=>match x with
    | .val (.string s)=>K (0≤n∧n<s.size) (.val (.int .u8 (s.data.toList.getD n.toNat 0).toNat)) []
    | _=>False
   | .array m E=>match tb E with
    | some ei=>match x with
     | .agg l=>oL ei (dc l (n.toNat*ei.sz)) fun Ψ v=>K (0≤n∧n<m∧Ψ) v []
     | _=>False
    | none=>False
   | _=>False
  | _=>False
theorem Km{tb:TypeId→Option TI}(ay:cD P tb){T:TypeId}{x y:Operand}(ho:o.op= .index T x y){K:KF}(h:zp tb T (ev x) (ev y) K):∃Φ v us,K Φ v us∧bm P o ev hg Φ v us:=by
 unfold zp at h
 split at h
 ·exact h.elim
 rename_i ti bT
 have hT:=(ay T ti bT).u
 split at h
 rotate_left
 ·exact h.elim
 rename_i k n hy
 have iS:∀{E:Env}{w:World}{al:Operand→Value},(∀x∈aR o.op,ae E w (ev x) (al x))→ae E w (ev x) (al x)∧al y= .int k n:=by
  intro E w al au
  refine⟨au x (by rw[ho];simp[aR]),?_⟩
  have:=au y (by rw[ho];simp[aR])
  rw[hy] at this
  exact bq this
 split at h
 ·rename_i hu
  rw[hu] at hT
  split at h
  rotate_left
  ·exact h.elim
  rename_i s hx
  refine⟨_,_,[],h,bm.pure fun p E' H w al hr hh au=> ?_⟩
  obtain⟨p1,p2⟩:=p
  obtain⟨hv,hn⟩:=iS au
  rw[hx] at hv
  have hv:=bq hv
  refine⟨_,?_,by rw[ae]⟩
  have ah:n.toNat<s.size:=by omega
  have kJ:n.toNat<s.data.toList.length:=by simpa using ah
  have e:s[n.toNat]? =some (s.data.toList.getD n.toNat 0):=by
   rw[getElem?_pos s n.toNat ah]
   have e2:s[n.toNat]=s.data.toList[n.toNat]'kJ:=rfl
   rw[e2,List.getD,List.getElem?_eq_getElem kJ];rfl
  unfold execOp
  simp only[ho,hv,hn]
  unfold Instr.index
  have bO:P.underlying T=some .string:=hT
  simp[Sem.run_bind,asIntOf,run_underlying bO,p1,e]
 ·rename_i m E hu
  rw[hu] at hT
  split at h
  rotate_left
  ·exact h.elim
  rename_i ei fX
  have hE:=ay E ei fX
  split at h
  rotate_left
  ·exact h.elim
  rename_i l hx
  obtain⟨Ψ,v,h,hl⟩:=rH hE h
  refine⟨_,_,[],h,bm.pure fun p E' H w al hr hh au=> ?_⟩
  obtain⟨p1,p2,p3⟩:=p
  obtain⟨hv,hn⟩:=iS au
  rw[hx,ae] at hv
  obtain⟨cs,hv,cA⟩:=hv
  obtain⟨cv,cd,hr2,_⟩:=hl p3 E' w cs cA
  refine⟨cv,?_,cd⟩
  have bO:P.underlying T=some (.array m E):=hT
  unfold execOp
  simp only[ho,hv,hn]
  unfold Instr.index
  simp[Sem.run_bind,asIntOf,run_underlying bO,p1,p2,hE.sizeOf,hr2]
 ·exact h.elim

theorem bj.D5{T E:TypeId}{ti:TI}(hT:P.underlying T=some (.slice E))(hE:bj P E ti):∃z,zq P T E ti.sz ti.bytes z∧z.cells.toList=ti.zero:=by
 obtain⟨z,h1,h2⟩:=hE.info
 exact⟨z,⟨hT,h1,by have:=hE.oH;rw[←h2] at this;simpa using this⟩,h2⟩
def hZ(a:Option AV)(d:Int)(K:Int→Prop):Prop:=match a with
 | none=>K d
 | some (.val (.int _ n))=>K n
 | some _=>False
theorem iU{a:Option Operand}{d:Nat}{K:Int→Prop}(h:hZ (a.map ev) d K):∃n:Int,K n∧∀(E:Env)(w:World)(al:Operand→Value),(∀x∈a.toList,ae E w (ev x) (al x))→0≤n→mN (a.map al) d n.toNat:=by
 cases a with
 | none=>exact⟨d,h,fun E w al _ _=> .inl ⟨rfl,by simp⟩⟩
 | some x=>
  simp only[Option.map_some,hZ] at h
  split at h
  ·rename_i h1;cases h1
  ·rename_i k n h1
   have hx:=Option.some.inj h1
   refine⟨n,h,fun E w al au hn=> .inr ⟨k,?_⟩⟩
   have:=au x (by simp)
   rw[hx] at this
   simp only[Option.map_some,bq this,Option.some.injEq,Value.int.injEq,true_and]
   omega
  ·exact h.elim
def zr(tb:TypeId→Option TI)(hg:Nat→Option J)(T:TypeId)(x:AV)(lo hi:Option AV)(K:KF):Prop:=
 match tb T with
 | none=>False
 | some ti=>match ti.u with
  | .slice E=>rI tb E fun s=>match x with
   | .own r ver sz off n=>hJ hg r ver fun Φ=>hZ lo 0 fun l=>hZ hi n fun h=>K (Φ∧sz=s∧0≤l∧l≤h∧h≤n) (.own r ver sz (off+l.toNat) (h.toNat - l.toNat)) []
   | .bs z c=>hZ lo 0 fun l=>hZ hi c.length fun h=>K (s=1∧0≤l∧l≤h∧h≤c.length) (.bs z ((c.take h.toNat).drop l.toNat)) []
   | .sl z sz f d c=>hZ lo 0 fun l=>hZ hi c.length fun h=>K (sz=s∧0≤l∧l≤h∧h≤c.length) (.sl z sz f d ((c.take h.toNat).drop l.toNat)) []
   | .val (.slice none 0 0)=>hZ lo 0 fun l=>hZ hi 0 fun h=>K (l=0∧h=0) (.val (.slice none 0 0)) []
   | _=>False
  | .string=>match x with
   | .val (.string c)=>hZ lo 0 fun l=>hZ hi c.size fun h=>K (0≤l∧l≤h∧h≤c.size) (.val (.string (c.extract l.toNat h.toNat))) []
   | _=>False
  | _=>False
theorem Kn {T : TypeId} (hT : P.underlying T = some .string) (s : ByteArray) {l h : Nat} {lo hi : Option Value} (hl : mN lo 0 l) (hh : mN hi s.size h) (h1 : l ≤ h) (h2 : h ≤ s.size) (w : World) :
    (Instr.sliceAt T (.string s) lo hi none).run P w= .ok (.string (s.extract l h)) w:=by

 rcases hl with⟨rfl,rfl⟩ | ⟨k,rfl⟩<;>rcases hh with⟨rfl,rfl⟩ | ⟨k',rfl⟩<;>
  simp[Instr.sliceAt,Instr.slice,Instr.sliceBounds,Instr.sliceBound,asIntOf,run_underlying hT,Sem.run_bind,h1,h2]
theorem Ko{tb:TypeId→Option TI}(ay:cD P tb){T:TypeId}{x:Operand}{lo hi:Option Operand}(ho:o.op= .slice T x lo hi none){K:KF}(h:zr tb hg T (ev x) (lo.map ev) (hi.map ev) K):∃Φ v us,K Φ v us∧bm P o ev hg Φ v us:=by
 unfold zr at h
 split at h
 ·exact h.elim
 rename_i ti bT
 have hT:=(ay T ti bT).u
 have kp:∀{E:Env}{w:World}{al:Operand→Value},(∀x∈aR o.op,ae E w (ev x) (al x))→ae E w (ev x) (al x)∧(∀y∈lo.toList,ae E w (ev y) (al y))∧(∀y∈hi.toList,ae E w (ev y) (al y)):=by
  intro E w al au
  rw[ho] at au
  simp only[aR] at au
  exact⟨au x (by simp),fun y hy=>au y (by simp at hy⊢;simp[hy]),fun y hy=>au y (by simp at hy⊢;simp[hy])⟩
 have hex:∀{w:World}{al:Operand→Value}{v:Value},(Instr.sliceAt T (al x) (lo.map al) (hi.map al) none).run P w= .ok v w→(execOp al o).run P w= .ok (.value v) w:=by
  intro w al v hr
  unfold execOp
  simp only[ho,Sem.run_bind,Option.map_none,hr,Result.andThen_ok,Sem.run_pure]
 split at h
 ·rename_i E hu
  rw[hu] at hT
  obtain⟨ei,h,hE⟩:=wP ay h
  obtain⟨z0,hS,_⟩:=hE.D5 hT
  split at h
  ·rename_i r ver sz off n hx
   obtain⟨Φ,h,hc⟩:=jR h
   obtain⟨l,h,hl⟩:=iU h
   obtain⟨kK,h,jS⟩:=iU h
   refine⟨_,_,[],h,bm.pure fun p E' H w al hr hh au=> ?_⟩
   obtain⟨p1,p2,p3,p4,p5⟩:=p
   obtain⟨hv,kL,lX⟩:=kp au
   rw[hx,ae] at hv
   obtain⟨a,c,dR,h1,h2,iT,h3⟩:=hv.2 (hc p1 E' H w hr hh)
   have bB:=wQ hS (a:=a) (n:=n) (c:=c) (hl E' w al kL p3) (jS E' w al lX (by omega)) (by omega) (by omega) w
   refine⟨_,hex (by rw[dR];exact bB),?_⟩
   rw[ae]
   refine⟨hv.1,fun _=>⟨_,_,rfl,by omega,by omega,?_,?_⟩⟩
   ·intro e
    split at e
    ·omega
    ·have:=iT (by simpa using e);omega
   ·by_cases fW:c=l.toNat
    ·left;omega
    ·right
     have eL:c≠0:=by omega
     obtain⟨zt,rfl,cur,T',fz,h4,h5⟩:=h3.resolve_left eL
     refine⟨zt,?_,cur,T',fz,h4,?_⟩
     ·simp only[fW,if_false,Option.map_some,Addr.add_lit,p2,Nat.add_mul]
     ·have:off+l.toNat+(c - l.toNat)=off+c:=by omega
      rw[this];exact h5
  ·rename_i z cc hx
   obtain⟨l,h,hl⟩:=iU h
   obtain⟨kK,h,jS⟩:=iU h
   refine⟨_,_,[],h,bm.pure fun p E' H w al hr hh au=> ?_⟩
   obtain⟨p2,p3,p4,p5⟩:=p
   obtain⟨hv,kL,lX⟩:=kp au
   rw[hx,ae] at hv
   obtain⟨a,n,c,dR,rfl,h1,h2,iT,h3⟩:=hv
   have bB:=wQ hS (a:=a) (n:=cc.length) (c:=c) (hl E' w al kL p3) (jS E' w al lX (by omega)) (by omega) (by omega) w
   refine⟨_,hex (by rw[dR];exact bB),?_⟩
   rw[ae]
   refine⟨_,_,_,rfl,by simp;omega,by omega,by omega,?_,?_⟩
   ·intro e
    split at e
    ·omega
    ·have:=iT (by simpa using e);omega
   ·intro i u hu
    rw[List.getElem?_drop,List.getElem?_take] at hu
    split at hu
    ·obtain⟨b,o',rfl,hz,cT⟩:=h3 _ u hu
     have fW:c≠l.toNat:=by omega
     refine⟨b,o'+l.toNat,?_,hz,?_⟩
     ·simp only[fW,if_false,Option.map_some,Addr.add_lit,p2,Nat.mul_one]
     ·rw[Nat.add_assoc];exact cT
    ·cases hu
  ·rename_i z sz α f d cc hx
   obtain⟨l,h,hl⟩:=iU h
   obtain⟨kK,h,jS⟩:=iU h
   refine⟨_,_,[],h,bm.pure fun p E' H w al hr hh au=> ?_⟩
   obtain⟨p2,p3,p4,p5⟩:=p
   obtain⟨hv,kL,lX⟩:=kp au
   rw[hx,ae] at hv
   obtain⟨a,n,c,dR,rfl,h1,h2,iT,h3⟩:=hv
   have bB:=wQ hS (a:=a) (n:=cc.length) (c:=c) (hl E' w al kL p3) (jS E' w al lX (by omega)) (by omega) (by omega) w
   refine⟨_,hex (by rw[dR];exact bB),?_⟩
   rw[ae]
   refine⟨_,_,_,rfl,by simp;omega,by omega,by omega,?_,?_⟩
   ·intro e
    split at e
    ·omega
    ·have:=iT (by simpa using e);omega
   ·intro i u hu
    rw[List.getElem?_drop,List.getElem?_take] at hu
    split at hu
    ·obtain⟨b,o',cs,rfl,hz,de,cA,cT⟩:=h3 _ u hu
     have fW:c≠l.toNat:=by omega
     refine⟨b,o'+l.toNat*sz,cs,?_,hz,de,cA,fun j u hu=> ?_⟩
     ·simp only[fW,if_false,Option.map_some,Addr.add_lit,p2]
     ·have:=cT j u hu
      rw[Nat.add_mul] at this
      rw[Nat.add_assoc o'];exact this
    ·cases hu
  ·rename_i hx
   obtain⟨l,h,hl⟩:=iU (d:=0) h
   obtain⟨kK,h,jS⟩:=iU (d:=0) h
   refine⟨_,_,[],h,bm.pure fun p E' H w al hr hh au=> ?_⟩
   obtain⟨rfl,rfl⟩:=p
   obtain⟨hv,kL,lX⟩:=kp au
   rw[hx] at hv
   have hv:=bq hv
   have bB:=wQ hS (a:=none) (n:=0) (c:=0) (hl E' w al kL (by omega)) (jS E' w al lX (by omega)) (by omega) (by omega) w
   exact⟨_,hex (by rw[hv];exact bB),by rw[ae];rfl⟩
  ·exact h.elim
 ·rename_i hu
  rw[hu] at hT
  have bO:P.underlying T=some .string:=hT
  split at h
  rotate_left
  ·exact h.elim
  rename_i c hx
  obtain⟨l,h,hl⟩:=iU h
  obtain⟨kK,h,jS⟩:=iU h
  refine⟨_,_,[],h,bm.pure fun p E' H w al hr hh au=> ?_⟩
  obtain⟨p3,p4,p5⟩:=p
  obtain⟨hv,kL,lX⟩:=kp au
  rw[hx] at hv
  have hv:=bq hv
  refine⟨_,hex (v:= .string (c.extract l.toNat kK.toNat)) ?_,by rw[ae]⟩
  have b1:=hl E' w al kL p3
  have b2:=jS E' w al lX (by omega)
  have q1:l.toNat≤kK.toNat:=by omega
  have q2:kK.toNat≤c.size:=by omega
  rw[hv]
  exact Kn bO c b1 b2 q1 q2 w
 ·exact h.elim
def zu(tb:TypeId→Option TI)(hg:Nat→Option J)(T:TypeId)(x:AV)(lo:Option AV)(hi mx:AV)(K:KF):Prop:=
 match tb T with
 | none=>False
 | some ti=>match ti.u with
  | .slice E=>rI tb E fun s=>match x with
   | .own r ver sz off n=>hJ hg r ver fun Φ=>hZ lo 0 fun l=>hZ (some hi) 0 fun h=>hZ (some mx) 0 fun m=>K (Φ∧sz=s∧0≤l∧l≤h∧h≤m∧m≤n) (.own r ver sz (off+l.toNat) (h.toNat - l.toNat)) []
   | _=>False
  | _=>False
theorem Kp {t E : TypeId} {sz bytes : Nat} {z : Value} (T : zq P t E sz bytes z) {a : Option Addr} {n c l h m : Nat} {lo : Option Value} {hi mx : Value} (hl : mN lo 0 l) (hh : mN (some hi) 0 h) (hm : mN (some mx) 0 m) (h1 : l ≤ h) (h2 : h ≤ m) (h3 : m ≤ c) (w : World) :
    (Instr.sliceAt t (.slice a n c) lo (some hi) (some mx)).run P w= .ok (.slice (if m=l then a else a.map (·.add (l*sz))) (h - l) (m - l)) w:=by
 obtain⟨i,bP,hz,ck,tB⟩:=info_parts T.info
 subst ck
 rcases hh with⟨q,_⟩ | ⟨k',hq⟩
 ·cases q
 cases hq
 rcases hm with⟨q,_⟩ | ⟨k2,hq⟩
 ·cases q
 cases hq
 rcases hl with⟨rfl,rfl⟩ | ⟨k,rfl⟩<;>
  simp[Instr.sliceAt,Instr.slice,Instr.sliceBounds,Instr.sliceBound,asIntOf,run_underlying T.under,Sem.run_bind,Go.sizeOf,typeInfo,bP,h1,h2,h3]
theorem Kq{tb:TypeId→Option TI}(ay:cD P tb){T:TypeId}{x:Operand}{lo:Option Operand}{hi mx:Operand}(ho:o.op= .slice T x lo (some hi) (some mx)){K:KF}(h:zu tb hg T (ev x) (lo.map ev) (ev hi) (ev mx) K):∃Φ v us,K Φ v us∧bm P o ev hg Φ v us:=by
 unfold zu at h
 split at h
 ·exact h.elim
 rename_i ti bT
 have hT:=(ay T ti bT).u
 have kp:∀{E:Env}{w:World}{al:Operand→Value},(∀x∈aR o.op,ae E w (ev x) (al x))→ae E w (ev x) (al x)∧(∀y∈lo.toList,ae E w (ev y) (al y))∧ae E w (ev hi) (al hi)∧ae E w (ev mx) (al mx):=by
  intro E w al au
  rw[ho] at au
  simp only[aR] at au
  exact⟨au x (by simp),fun y hy=>au y (by simp at hy⊢;simp[hy]),au hi (by simp),au mx (by simp)⟩
 split at h
 rotate_left
 ·exact h.elim
 rename_i E hu
 rw[hu] at hT
 obtain⟨ei,h,hE⟩:=wP ay h
 obtain⟨z0,hS,_⟩:=hE.D5 hT
 split at h
 rotate_left
 ·exact h.elim
 rename_i r ver sz off n hx
 obtain⟨Φ,h,hc⟩:=jR h
 obtain⟨l,h,hl⟩:=iU h
 obtain⟨kK,h,jS⟩:=iU (a:=some hi) (d:=0) h
 obtain⟨m',h,lY⟩:=iU (a:=some mx) (d:=0) h
 refine⟨_,_,[],h,bm.pure fun p E' H w al hr hh au=> ?_⟩
 obtain⟨p1,p2,p3,p4,p5,p6⟩:=p
 obtain⟨hv,kL,lX,Kr⟩:=kp au
 rw[hx,ae] at hv
 obtain⟨a,c,dR,h1,h2,iT,h3⟩:=hv.2 (hc p1 E' H w hr hh)
 have bB:=Kp hS (a:=a) (n:=n) (c:=c) (hl E' w al kL p3) (jS E' w al (by simpa using lX) (by omega)) (lY E' w al (by simpa using Kr) (by omega)) (by omega) (by omega) (by omega) w
 refine⟨.slice (if m'.toNat=l.toNat then a else a.map (·.add (l.toNat*ei.sz))) (kK.toNat - l.toNat) (m'.toNat - l.toNat),?_,?_⟩
 ·unfold execOp
  simp only[ho,Sem.run_bind,Option.map_some,dR,bB,Result.andThen_ok,Sem.run_pure]
 rw[ae]
 refine⟨hv.1,fun _=>⟨_,_,rfl,by omega,by omega,?_,?_⟩⟩
 ·intro e
  split at e
  ·omega
  ·have:=iT (by simpa using e);omega
 ·by_cases fW:m'.toNat=l.toNat
  ·left;omega
  ·right
   have eL:c≠0:=by omega
   obtain⟨zt,rfl,cur,T',fz,h4,h5⟩:=h3.resolve_left eL
   refine⟨zt,?_,cur,T',fz,h4,?_⟩
   ·simp only[fW,if_false,Option.map_some,Addr.add_lit,p2,Nat.add_mul]
   ·have:(off+l.toNat+(m'.toNat - l.toNat))*sz≤(off+c)*sz:=Nat.mul_le_mul_right _ (by omega)
    omega
end

set_option linter.unusedVariables false
set_option linter.unusedSimpArgs false
section
variable {P:Program} {o:Oper} {ev:Operand→AV} {hg:Nat→Option J}
theorem zv {op : BinOp} {T : TypeId} {x y : Operand} {T' : TypeId} (ho : o.op = .binOp op T x y T') {w : World} {al : Operand → Value} {u : Value} (zw : (eqGuard op T x y (al x) (al y)).run P w = .ok () w)
    (hr:(binOp op T (al x) (al y)).run P w= .ok u w):(execOp al o).run P w= .ok (.value u) w:=by
 unfold execOp
 simp only[ho,Sem.run_bind,zw,Result.andThen_ok,hr,Sem.run_pure]
theorem Ks{op:BinOp}{T:TypeId}{x y:Operand}{k k':IntKind}{a b:Int}(w:World):(eqGuard op T x y (.int k a) (.int k' b)).run P w= .ok () w:=by
 unfold eqGuard;split<;>rfl
theorem D6{op:BinOp}{T:TypeId}{x y:Operand}{a b:Bool}(w:World):(eqGuard op T x y (.bool a) (.bool b)).run P w= .ok () w:=by
 unfold eqGuard;split<;>rfl
theorem pY{op:BinOp}{T:TypeId}{x y:Operand}{a b:ByteArray}(w:World):(eqGuard op T x y (.string a) (.string b)).run P w= .ok () w:=by
 unfold eqGuard;split<;>rfl
theorem wR{op:BinOp}{T:TypeId}{x y:Operand}{a b:Option Addr}(w:World):(eqGuard op T x y (.pointer a) (.pointer b)).run P w= .ok () w:=by
 unfold eqGuard;split<;>rfl
theorem oM{op:BinOp}{T:TypeId}{x y:Operand}{a b:Option Addr}{n c m d:Nat}(w:World):(eqGuard op T x y (.slice a n c) (.slice b m d)).run P w= .ok () w:=by
 unfold eqGuard;split<;>rfl

def rJ(op:BinOp)(K:Prop→AV→Prop):Prop:=match op with
 | .eql=>K True (.val (.bool false))
 | .neq=>K True (.val (.bool true))
 | _=>False
def wS(op:BinOp)(K:Prop→AV→Prop):Prop:=match op with
 | .eql=>K True (.val (.bool true))
 | .neq=>K True (.val (.bool false))
 | _=>False
def D7(op:BinOp)(a b:Bool)(K:Prop→AV→Prop):Prop:=match op with
 | .eql=>K True (.val (.bool (a==b)))
 | .neq=>K True (.val (.bool (!(a==b))))
 | _=>False
def D8(op:BinOp)(a b:ByteArray)(K:Prop→AV→Prop):Prop:=match op with
 | .eql=>K True (.val (.bool (decide (a.data.toList=b.data.toList))))
 | .neq=>K True (.val (.bool (!decide (a.data.toList=b.data.toList))))
 | .add=>K (a.size+b.size≤9223372036854775807) (.val (.string (a++b)))
 | .lss=>K True (.val (.bool (Op.bytesLess a.data.toList b.data.toList)))
 | .leq=>K True (.val (.bool (Op.bytesLess a.data.toList b.data.toList||decide (a.data.toList=b.data.toList))))
 | .gtr=>K True (.val (.bool (!(Op.bytesLess a.data.toList b.data.toList||decide (a.data.toList=b.data.toList)))))
 | .geq=>K True (.val (.bool (!Op.bytesLess a.data.toList b.data.toList)))
 | _=>False
def rK:List AV→Option (List Value)
 | []=>some []
 | x::l=>match x with
  | .val v=>match rK l with
   | some vs=>some (v::vs)
   | none=>none
  | _=>none
theorem tC{E:Env}{w:World}:∀{l:List AV}{vs cs:List Value},rK l=some vs→aq E w l cs→cs=vs
 | [],vs,cs,h,hr=>by
  simp only[rK,Option.some.injEq] at h
  rw[aq] at hr
  rw[hr,h]
 | x::l,vs,cs,h,hr=>by
  unfold rK at h
  split at h
  ·split at h
   ·rename_i v _ us hu
    cases h
    rw[aq] at hr
    obtain⟨v',dm,rfl,h1,h2⟩:=hr
    rw[ae] at h1
    rw[h1,tC hu h2]
   ·cases h
  ·cases h
def D9(op:BinOp)(vs ws:List Value)(K:AV→Prop):Prop:=match op with
 | .eql=>K (.val (.bool (eK vs ws)))
 | .neq=>K (.val (.bool (!eK vs ws)))
 | _=>False
def zx(tb:TypeId→Option TI)(hg:Nat→Option J)(op:BinOp)(T:TypeId)(x y:AV)(K:KF):Prop:=
 match x with
 | .val (.int k a)=>match y with
  | .val (.int k' b)=>match op with
   | .shl=>wH .shl k a b fun Φ v=>K Φ v []
   | .shr=>wH .shr k a b fun Φ v=>K Φ v []
   | op=>zd op k a b fun Φ v=>K (k'=k∧Φ) v []
  | _=>False
 | .val (.bool a)=>match y with
  | .val (.bool b)=>match tb T with
   | some ti=>match ti.u with
    | .bool=>D7 op a b fun Φ v=>K Φ v []
    | _=>False
   | none=>False
  | _=>False
 | .val (.string a)=>match y with
  | .val (.string b)=>D8 op a b fun Φ v=>K Φ v []
  | _=>False
 | .ref r ver _ _ _=>match y with
  | .val (.pointer none)=>match tb T with
   | some ti=>match ti.u with
    | .ptr _=>hJ hg r ver fun Ψ=>rJ op fun Φ v=>K Ψ v []
    | _=>False
   | none=>False
  | _=>False
 | .val (.pointer none)=>match y with
  | .val (.pointer none)=>match tb T with
   | some ti=>match ti.u with
    | .ptr _=>wS op fun Φ v=>K Φ v []
    | _=>False
   | none=>False
  | _=>False
 | .val (.slice none 0 0)=>match y with
  | .val (.slice none 0 0)=>match tb T with
   | some ti=>match ti.u with
    | .slice _=>wS op fun Φ v=>K Φ v []
    | _=>False
   | none=>False
  | _=>False
 | .own r ver sz off n=>match y with
  | .val (.slice none 0 0)=>match tb T with
   | some ti=>match ti.u with
    | .slice _=>hJ hg r ver fun Ψ=>rJ op fun Φ v=>K (Ψ∧0<n) v []
    | _=>False
   | none=>False
  | _=>False
 | .bs z l=>match y with
  | .val (.slice none 0 0)=>match tb T with
   | some ti=>match ti.u with
    | .slice _=>rJ op fun Φ v=>K (0<l.length) v []
    | _=>False
   | none=>False
  | _=>False
 | .agg l=>match y with
  | .agg m=>match tb T with
   | some ti=>match ti.cmp with
    | true=>match rK l with
     | some vs=>match rK m with
      | some ws=>D9 op vs ws fun v=>K (gZ ti.zero vs∧gZ ti.zero ws) v []
      | none=>False
     | none=>False
    | false=>False
   | none=>False
  | _=>False
 | _=>False
theorem Kt{tb:TypeId→Option TI}(ay:cD P tb){op:BinOp}{T T':TypeId}{x y:Operand}(ho:o.op= .binOp op T x y T'){K:KF}(h:zx tb hg op T (ev x) (ev y) K):∃Φ v us,K Φ v us∧bm P o ev hg Φ v us:=by
 have iS:∀{E:Env}{w:World}{al:Operand→Value},(∀x∈aR o.op,ae E w (ev x) (al x))→ae E w (ev x) (al x)∧ae E w (ev y) (al y):=by
  intro E w al au
  rw[ho] at au
  exact⟨au x (by simp[aR]),au y (by simp[aR])⟩
 have fin : ∀ {Φ : Prop} {u : Value}, K Φ (.val u) [] → (Φ → ∀ (E : Env) (H : List J) (w : World) (a b : Value), HR E w H → (∀ (r : Nat) (e : J), hg r = some e → H[r]? = some e) → ae E w (ev x) a → ae E w (ev y) b →
     (eqGuard op T x y a b).run P w= .ok () w∧(binOp op T a b).run P w= .ok u w)→∃Φ v us,K Φ v us∧bm P o ev hg Φ v us:=by
  intro Φ u hK bB
  refine⟨Φ,_,[],hK,bm.pure fun p E H w al hr hh au=> ?_⟩
  obtain⟨h1,h2⟩:=iS au
  obtain⟨h3,h4⟩:=bB p E H w _ _ hr hh h1 h2
  exact⟨u,zv ho h3 h4,by rw[ae]⟩
 unfold zx at h
 split at h
 ·rename_i k a hx
  split at h
  rotate_left
  ·exact h.elim
  rename_i k' b hy
  have key:∀{Φ:Prop}{u:Value},K Φ (.val u) []→(Φ→∀w,(binOp op T (.int k a) (.int k' b)).run P w= .ok u w)→∃Φ v us,K Φ v us∧bm P o ev hg Φ v us:=by
   intro Φ u hK bB
   refine fin hK fun p E H w a' b' hr hh h1 h2=> ?_
   rw[hx] at h1;rw[hy] at h2
   rw[bq h1,bq h2]
   exact⟨Ks w,bB p w⟩
  split at h
  ·obtain⟨Φ,u,h1,h2⟩:=DW (P:=P) (k':=k') T h
   exact key h1 h2
  ·obtain⟨Φ,u,h1,h2⟩:=DW (P:=P) (k':=k') T h
   exact key h1 h2
  ·obtain⟨Φ,u,h1,h2⟩:=Kf (P:=P) T h
   exact key h1 (fun p w=>by rw[p.1];exact h2 p.2 w)
 ·rename_i a hx
  repeat' (split at h;rotate_left;(try exact h.elim))
  all_goals (try exact h.elim)
  rename_i _ b hy _ ti bT _ hu
  have hT:=(ay T ti bT).u
  rw[hu] at hT
  have bO:P.underlying T=some .bool:=hT
  unfold D7 at h
  split at h
  ·refine fin h fun p E H w a' b' hr hh h1 h2=> ?_
   rw[hx] at h1;rw[hy] at h2
   rw[bq h1,bq h2]
   exact⟨D6 w,run_eql_bool w T a b bO⟩
  ·refine fin h fun p E H w a' b' hr hh h1 h2=> ?_
   rw[hx] at h1;rw[hy] at h2
   rw[bq h1,bq h2]
   exact⟨D6 w,run_neq_bool w T a b bO⟩
  ·exact h.elim
 ·rename_i a hx
  split at h
  rotate_left
  ·exact h.elim
  rename_i b hy
  have e:(a.toList==b.toList)=decide (a.data.toList=b.data.toList):=by
   rw[ByteArray.toList_eq,ByteArray.toList_eq,Bool.eq_iff_iff];simp
  unfold D8 at h
  split at h
  ·refine fin h fun p E H w a' b' hr hh h1 h2=> ?_
   rw[hx] at h1;rw[hy] at h2
   rw[bq h1,bq h2]
   exact⟨pY w,by simp only[binOp,Op.stringOp,Sem.run_pure,e]⟩
  ·refine fin h fun p E H w a' b' hr hh h1 h2=> ?_
   rw[hx] at h1;rw[hy] at h2
   rw[bq h1,bq h2]
   exact⟨pY w,by simp only[binOp,Op.stringOp,Sem.run_pure,e]⟩
  ·refine fin h fun p E H w a' b' hr hh h1 h2=> ?_
   rw[hx] at h1;rw[hy] at h2
   rw[bq h1,bq h2]
   refine⟨pY w,?_⟩
   have:¬(((a.size+b.size:Nat):Int)>IntKind.i64.max):=by simp[IntKind.max,IntKind.signed,IntKind.bits];omega
   simp only[binOp,Op.stringOp]
   rw[if_neg this];rfl
  ·refine fin h fun p E H w a' b' hr hh h1 h2=> ?_
   rw[hx] at h1;rw[hy] at h2
   rw[bq h1,bq h2]
   exact⟨pY w,by(simp only[binOp,Op.stringOp,Sem.run_pure];(try rw[e]);simp only[ByteArray.toList_eq])⟩
  ·refine fin h fun p E H w a' b' hr hh h1 h2=> ?_
   rw[hx] at h1;rw[hy] at h2
   rw[bq h1,bq h2]
   exact⟨pY w,by(simp only[binOp,Op.stringOp,Sem.run_pure];(try rw[e]);simp only[ByteArray.toList_eq])⟩
  ·refine fin h fun p E H w a' b' hr hh h1 h2=> ?_
   rw[hx] at h1;rw[hy] at h2
   rw[bq h1,bq h2]
   exact⟨pY w,by(simp only[binOp,Op.stringOp,Sem.run_pure];(try rw[e]);simp only[ByteArray.toList_eq])⟩
  ·refine fin h fun p E H w a' b' hr hh h1 h2=> ?_
   rw[hx] at h1;rw[hy] at h2
   rw[bq h1,bq h2]
   exact⟨pY w,by(simp only[binOp,Op.stringOp,Sem.run_pure];(try rw[e]);simp only[ByteArray.toList_eq])⟩
  ·exact h.elim
 ·rename_i r ver s i j hx
  repeat' (split at h;rotate_left;(try exact h.elim))
  all_goals (try exact h.elim)
  rename_i _ hy _ ti bT _ E0 hu
  have hT:=(ay T ti bT).u
  rw[hu] at hT
  have bO:P.underlying T=some (.pointer (P.pointee T)):=by
   have:P.underlying T=some (.pointer E0):=hT
   simp[Program.pointee,this]
  obtain⟨Ψ,h,hc⟩:=jR h
  unfold rJ at h
  split at h
  ·refine fin h fun p E H w a' b' hr hh h1 h2=> ?_
   rw[hx,ae] at h1;rw[hy] at h2
   rw[h1.2 (hc p E H w hr hh),bq h2]
   exact⟨wR w,run_eql_pointer_nil w T _ bO⟩
  ·refine fin h fun p E H w a' b' hr hh h1 h2=> ?_
   rw[hx,ae] at h1;rw[hy] at h2
   rw[h1.2 (hc p E H w hr hh),bq h2]
   exact⟨wR w,run_neq_pointer_nil w T _ bO⟩
  ·exact h.elim
 ·rename_i hx
  repeat' (split at h;rotate_left;(try exact h.elim))
  all_goals (try exact h.elim)
  rename_i _ hy _ ti bT _ E0 hu
  have hT:=(ay T ti bT).u
  rw[hu] at hT
  have bO:P.underlying T=some (.pointer (P.pointee T)):=by
   have:P.underlying T=some (.pointer E0):=hT
   simp[Program.pointee,this]
  unfold wS at h
  split at h
  ·refine fin h fun p E H w a' b' hr hh h1 h2=> ?_
   rw[hx] at h1;rw[hy] at h2
   rw[bq h1,bq h2]
   exact⟨wR w,run_eql_pointer_nil w T _ bO⟩
  ·refine fin h fun p E H w a' b' hr hh h1 h2=> ?_
   rw[hx] at h1;rw[hy] at h2
   rw[bq h1,bq h2]
   exact⟨wR w,run_neq_pointer_nil w T _ bO⟩
  ·exact h.elim
 ·rename_i hx
  repeat' (split at h;rotate_left;(try exact h.elim))
  all_goals (try exact h.elim)
  rename_i _ hy _ ti bT _ E0 hu
  have hT:=(ay T ti bT).u
  rw[hu] at hT
  have bO:P.underlying T=some (.slice E0):=hT
  unfold wS at h
  split at h
  ·refine fin h fun p E H w a' b' hr hh h1 h2=> ?_
   rw[hx] at h1;rw[hy] at h2
   rw[bq h1,bq h2]
   exact⟨oM w,run_eql_nil_slice w T E0 none 0 0 0 0 bO⟩
  ·refine fin h fun p E H w a' b' hr hh h1 h2=> ?_
   rw[hx] at h1;rw[hy] at h2
   rw[bq h1,bq h2]
   exact⟨oM w,run_neq_nil_slice w T E0 none 0 0 0 0 bO⟩
  ·exact h.elim
 ·rename_i r ver sz off n hx
  repeat' (split at h;rotate_left;(try exact h.elim))
  all_goals (try exact h.elim)
  rename_i _ hy _ ti bT _ E0 hu
  have hT:=(ay T ti bT).u
  rw[hu] at hT
  have bO:P.underlying T=some (.slice E0):=hT
  obtain⟨Ψ,h,hc⟩:=jR h
  have tD:∀{E:Env}{H:List J}{w:World}{a':Value},Ψ→0<n→HR E w H→(∀(r:Nat)(e:J),hg r=some e→H[r]? =some e)→ae E w (ev x) a'→∃ad c,a'= .slice (some ad) n c:=by
   intro E H w a' p1 p2 hr hh h1
   rw[hx,ae] at h1
   obtain⟨a,c,rfl,h3,h4,h5,h6⟩:=h1.2 (hc p1 E H w hr hh)
   cases a with
   | none=>have:=h5 rfl;omega
   | some ad=>exact⟨ad,c,rfl⟩
  unfold rJ at h
  split at h
  ·refine fin h fun p E H w a' b' hr hh h1 h2=> ?_
   obtain⟨ad,c,rfl⟩:=tD p.1 p.2 hr hh h1
   rw[hy] at h2
   rw[bq h2]
   exact⟨oM w,Lib.run_eql_slice_nil w T E0 (some ad) n c 0 0 bO⟩
  ·refine fin h fun p E H w a' b' hr hh h1 h2=> ?_
   obtain⟨ad,c,rfl⟩:=tD p.1 p.2 hr hh h1
   rw[hy] at h2
   rw[bq h2]
   exact⟨oM w,run_neq_slice_nil_any w T E0 (some ad) n c 0 0 bO⟩
  ·exact h.elim
 ·rename_i z l hx
  repeat' (split at h;rotate_left;(try exact h.elim))
  all_goals (try exact h.elim)
  rename_i _ hy _ ti bT _ E0 hu
  have hT:=(ay T ti bT).u
  rw[hu] at hT
  have bO:P.underlying T=some (.slice E0):=hT
  have tD:∀{E:Env}{w:World}{a':Value},0<l.length→ae E w (ev x) a'→∃ad n c,a'= .slice (some ad) n c:=by
   intro E w a' p2 h1
   rw[hx,ae] at h1
   obtain⟨a,n,c,rfl,h3,h4,h5,h6,h7⟩:=h1
   cases a with
   | none=>have:=h6 rfl;omega
   | some ad=>exact⟨ad,_,c,rfl⟩
  unfold rJ at h
  split at h
  ·refine fin h fun p E H w a' b' hr hh h1 h2=> ?_
   obtain⟨ad,n,c,rfl⟩:=tD p h1
   rw[hy] at h2
   rw[bq h2]
   exact⟨oM w,Lib.run_eql_slice_nil w T E0 (some ad) n c 0 0 bO⟩
  ·refine fin h fun p E H w a' b' hr hh h1 h2=> ?_
   obtain⟨ad,n,c,rfl⟩:=tD p h1
   rw[hy] at h2
   rw[bq h2]
   exact⟨oM w,run_neq_slice_nil_any w T E0 (some ad) n c 0 0 bO⟩
  ·exact h.elim
 ·rename_i l hx
  repeat' (split at h;rotate_left;(try exact h.elim))
  all_goals (try exact h.elim)
  rename_i _ m hy _ ti bT _ zy _ vs zz _ ws Ea
  have hT:=(ay T ti bT).cmp zy
  unfold D9 at h
  split at h
  ·refine fin h fun p E H w a' b' hr hh h1 h2=> ?_
   rw[hx,ae] at h1;rw[hy,ae] at h2
   obtain⟨cs,rfl,g1⟩:=h1
   obtain⟨ds,rfl,g2⟩:=h2
   rw[tC zz g1,tC Ea g2]
   obtain⟨q1,q2,q3,q4⟩:=hT w vs ws x y p.1 p.2
   exact⟨q1,q3⟩
  ·refine fin h fun p E H w a' b' hr hh h1 h2=> ?_
   rw[hx,ae] at h1;rw[hy,ae] at h2
   obtain⟨cs,rfl,g1⟩:=h1
   obtain⟨ds,rfl,g2⟩:=h2
   rw[tC zz g1,tC Ea g2]
   obtain⟨q1,q2,q3,q4⟩:=hT w vs ws x y p.1 p.2
   exact⟨q2,q4⟩
  ·exact h.elim
 ·exact h.elim
def zA(op:UnOp)(x:AV)(K:KF):Prop:=match x with
 | .val (.bool b)=>match op with
  | .not=>K True (.val (.bool (!b))) []
  | _=>False
 | .val (.int k a)=>match op with
  | .neg=>ar k (0 - a) fun Φ v=>K Φ v []
  | .xor=>match k with
   | .u8=>K (0≤a∧a≤255) (.val (.int .u8 (255 - a))) []
   | .u32=>K (0≤a∧a≤4294967295) (.val (.int .u32 (4294967295 - a))) []
   | .u64=>K (0≤a∧a≤18446744073709551615) (.val (.int .u64 (18446744073709551615 - a))) []
   | _=>False
  | _=>False
 | _=>False
theorem Ku(n:Nat){a:Nat}(h:a<2^n):(2^n - 1)^^^a=2^n - 1 - a:=by
 apply Nat.eq_of_testBit_eq
 intro i
 rw[Nat.testBit_xor,Nat.testBit_two_pow_sub_one]
 have:2^n - 1 - a=2^n - (a+1):=by omega
 rw[this,Nat.testBit_two_pow_sub_succ h]
 by_cases hi:i<n
 ·simp[hi]
 ·have:a.testBit i=false:=Nat.testBit_lt_two_pow (Nat.lt_of_lt_of_le h (Nat.pow_le_pow_right (by decide) (by omega)))
  simp[hi,this]
theorem unary_xor{k:IntKind}(hs:k.signed=false){a:Int}(h0:0≤a)(h1:dD k a)(w:World):(Op.unary .xor (.int k a)).run P w= .ok (.int k (k.max - a)) w:=by
 have ah:=oI h1 h0
 have hm:dD k k.max:=by cases k<;>simp[IntKind.max,IntKind.signed,IntKind.bits,dD] at hs⊢
 have zB:(0:Int)≤k.max:=by cases k<;>simp[IntKind.max,IntKind.signed,IntKind.bits] at hs⊢
 have Kv:k.max.toNat=2^k.bits - 1:=by cases k<;>simp[IntKind.max,IntKind.signed,IntKind.bits] at hs⊢<;>rfl
 have e:k.wrap ((BitVec.ofInt k.bits k.max^^^BitVec.ofInt k.bits a).toNat:Int)=k.max - a:=by
  rw[BitVec.toNat_xor,oJ hm zB,oJ h1 h0,Kv,Ku _ ah]
  rw[tA (by omega) (fun h=>by rw[hs] at h;cases h)]
  omega
 simp only[Op.unary,hs,Op.intBits,Bool.false_eq_true,if_false,Sem.run_pure,e]
theorem Kw{op:UnOp}{T:TypeId}{x:Operand}(ho:o.op= .unOp op T x){K:KF}(h:zA op (ev x) K):∃Φ v us,K Φ v us∧bm P o ev hg Φ v us:=by
 have fin:∀{Φ:Prop}{u u':Value},K Φ (.val u) []→ev x= .val u'→(Φ→∀w,(Op.unary op u').run P w= .ok u w)→∃Φ v us,K Φ v us∧bm P o ev hg Φ v us:=by
  intro Φ u u' hK hx bB
  refine⟨Φ,_,[],hK,bm.pure fun p E H w al hr hh au=> ?_⟩
  have h1:=au x (by rw[ho];simp[aR])
  rw[hx] at h1
  have h1:=bq h1
  refine⟨u,?_,by rw[ae]⟩
  unfold execOp
  simp only[ho,h1,Sem.run_bind,bB p w,Result.andThen_ok,Sem.run_pure]
 unfold zA at h
 split at h
 ·rename_i b hx
  split at h
  ·exact fin h hx fun p w=>rfl
  ·exact h.elim
 ·rename_i k a hx
  split at h
  ·obtain⟨Φ,m,h1,h2⟩:=rE h
   exact fin h1 hx fun p w=>by simp only[Op.unary,Op.intArith,h2 p,Sem.run_pure]
  ·split at h
   ·exact fin h hx fun p w=>by have h9:=unary_xor (P:=P) (k:= .u8) rfl p.1 ⟨p.1,p.2⟩ w;simpa [IntKind.max,IntKind.signed,IntKind.bits] using h9
   ·exact fin h hx fun p w=>by have h9:=unary_xor (P:=P) (k:= .u32) rfl p.1 ⟨p.1,p.2⟩ w;simpa [IntKind.max,IntKind.signed,IntKind.bits] using h9
   ·exact fin h hx fun p w=>by have h9:=unary_xor (P:=P) (k:= .u64) rfl p.1 ⟨p.1,p.2⟩ w;simpa [IntKind.max,IntKind.signed,IntKind.bits] using h9
   ·exact h.elim
  ·exact h.elim
 ·exact h.elim
def zC(tb:TypeId→Option TI)(S T:TypeId)(x:AV)(K:KF):Prop:=match x with
 | .val (.int _ n)=>match tb S with
  | some si=>match tb T with
   | some ti=>match si.u with
    | .int _=>match ti.u with
     | .int k=>ar k n fun Φ v=>K Φ v []
     | _=>False
    | _=>False
   | none=>False
  | none=>False
 | _=>False
theorem Kx{tb:TypeId→Option TI}(ay:cD P tb){S T:TypeId}{x:Operand}(ho:o.op= .convert S T x){K:KF}(h:zC tb S T (ev x) K):∃Φ v us,K Φ v us∧bm P o ev hg Φ v us:=by
 unfold zC at h
 repeat' (split at h;rotate_left;(try exact h.elim))
 all_goals (try exact h.elim)
 rename_i _ k0 n hx _ si zD _ ti bT _ k1 zE _ k hu
 have hS:=(ay S si zD).u
 have hT:=(ay T ti bT).u
 rw[zE] at hS;rw[hu] at hT
 have oN:P.underlying S=some (.int k1):=hS
 have bO:P.underlying T=some (.int k):=hT
 obtain⟨Φ,m,h1,h2⟩:=rE h
 refine⟨Φ,_,[],h1,bm.pure fun p E H w al hr hh au=> ?_⟩
 have hv:=au x (by rw[ho];simp[aR])
 rw[hx] at hv
 have hv:=bq hv
 refine⟨_,?_,by rw[ae]⟩
 unfold execOp
 simp only[ho,hv,Sem.run_bind]
 unfold convert
 simp[Sem.run_bind,run_underlying oN,run_underlying bO,Conv.intToInt,h2 p]
theorem Eb{x:Operand}(ho:o.op= .move x∨o.op= .assign x){K:KF}(h:K True (ev x) []):∃Φ v us,K Φ v us∧bm P o ev hg Φ v us:=by
 refine⟨_,_,_,h,bm.pure fun p E H w al hr hh au=>⟨al x,?_,au x (by rcases ho with ho | ho<;>rw[ho]<;>simp[aR])⟩⟩
 rcases ho with ho | ho
 ·exact Ky ho rfl
 ·exact Kz ho rfl
def zF(x:AV)(i:Nat)(K:KF):Prop:=match x with
 | .aD l=>K (i<l.length) (bF l i) []
 | _=>False
theorem KA{l:List AV}{i:Nat}(h:i<l.length):l[i]? =some (bF l i):=by
 unfold bF
 rw[cj,List.getElem?_eq_getElem h]
theorem KB{x:Operand}{i:Nat}(ho:o.op= .extract x i){K:KF}(h:zF (ev x) i K):∃Φ v us,K Φ v us∧bm P o ev hg Φ v us:=by
 unfold zF at h
 split at h
 ·rename_i l hx
  refine⟨_,_,_,h,bm.pure fun p E H w al hr hh au=> ?_⟩
  have hv:=au x (by rw[ho];simp[aR])
  rw[hx,ae] at hv
  obtain⟨cs,hv,cA⟩:=hv
  obtain⟨u,hu,fo⟩:=(eX cA).2 i _ (KA p)
  refine⟨u,?_,fo⟩
  unfold execOp
  simp[ho,hv,Instr.extract,hu]
 ·exact h.elim
def Ed(tb:TypeId→Option TI)(T:TypeId)(x:AV)(k:Nat)(K:KF):Prop:=
 wO tb T k fun off fi _=>match x with
  | .agg l=>oL fi (dc l off) fun Φ v=>K Φ v []
  | _=>False
theorem KC{tb:TypeId→Option TI}(ay:cD P tb){T:TypeId}{x:Operand}{k:Nat}(ho:o.op= .field T x k){K:KF}(h:Ed tb T (ev x) k K):∃Φ v us,K Φ v us∧bm P o ev hg Φ v us:=by
 obtain⟨off,fi,ko,f,h,hu,hf,zm,pW⟩:=D0 ay h
 split at h
 ·rename_i l hx
  obtain⟨Φ,v,h,hl⟩:=rH pW h
  refine⟨_,_,_,h,bm.pure fun p E H w al hr hh au=> ?_⟩
  have hv:=au x (by rw[ho];simp[aR])
  rw[hx,ae] at hv
  obtain⟨cs,hv,cA⟩:=hv
  obtain⟨cv,h1,h2,_⟩:=hl p E w cs cA
  refine⟨cv,?_,h1⟩
  unfold execOp
  simp only[ho,hv]
  unfold Instr.field
  simp[Sem.run_bind,run_underlying hu,hf,zm,asAgg,h2]
 ·exact h.elim
theorem tE{E:Env}{w:World}{al:Operand→Value}:∀(l:List Operand),(∀x∈l,ae E w (ev x) (al x))→aq E w (l.map ev) (l.map al)
 | [],_=>by simp[aq]
 | x::l,h=>by
  simp only[List.map_cons,aq]
  exact⟨_,_,rfl,h x (by simp),tE l (fun y hy=>h y (by simp[hy]))⟩
theorem KD{f:FuncId}{caps:Array Operand}(ho:o.op= .makeFunc (.func f) #[] caps){K:KF}(h:K True (.clo f (caps.toList.map ev)) []):∃Φ v us,K Φ v us∧bm P o ev hg Φ v us:=by
 refine⟨_,_,_,h,bm.pure fun p E H w al hr hh au=> ?_⟩
 refine⟨.func (.func f) #[] (caps.map al),?_,?_⟩
 ·unfold execOp
  simp[ho,Instr.makeFunc,Sem.run_pure]
 ·rw[ae]
  refine⟨caps.toList.map al,by congr 1;apply Array.ext';simp,tE _ (fun x hx=>au x (by rw[ho];exact hx))⟩
def zG(tb:TypeId→Option TI)(T:TypeId)(x:AV)(K:KF):Prop:=match tb T with
 | some ti=>match ti.u with
  | .slice _=>match x with
   | .own r ver _ _ n=>hJ hg r ver fun Φ=>K Φ (.val (.int .i64 (n:Int))) []
   | .pl r ver _ _ n=>hJ hg r ver fun Φ=>K Φ (.val (.int .i64 (n:Int))) []
   | .bs _ l=>K True (.val (.int .i64 (l.length:Int))) []
   | .sl _ _ _ _ l=>K True (.val (.int .i64 (l.length:Int))) []
   | .val (.slice none 0 0)=>K True (.val (.int .i64 0)) []
   | _=>False
  | .string=>match x with
   | .val (.string s)=>K True (.val (.int .i64 (s.size:Int))) []
   | _=>False
  | _=>False
 | none=>False
theorem KE{tb:TypeId→Option TI}(ay:cD P tb){T:TypeId}{x:Operand}(ho:o.op= .call {callee:= .builtin .len,args:= #[x],argTypes:= #[T]}){K:KF}(h:zG (hg:=hg) tb T (ev x) K):∃Φ v us,K Φ v us∧bm P o ev hg Φ v us:=by
 have kp:∀{E:Env}{w:World}{al:Operand→Value},(∀x∈aR o.op,ae E w (ev x) (al x))→ae E w (ev x) (al x):=by
  intro E w al au;exact au x (by rw[ho];simp[aR])
 have hex:∀{w:World}{al:Operand→Value}{v:Value},(Builtin.len_ #[T] o.type #[al x]).run P w= .ok v w→(execOp al o).run P w= .ok (.value v) w:=by
  intro w al v hr
  unfold execOp
  simp only[ho,resolve,invoke,builtin,Sem.run_bind,Sem.run_pure,Result.andThen_ok,List.map_toArray,List.map_cons,List.map_nil,hr]
 unfold zG at h
 split at h
 rotate_left
 ·exact h.elim
 rename_i ti bT
 have hT:=(ay T ti bT).u
 split at h
 ·rename_i E0 hu
  rw[hu] at hT
  have bO:P.underlying T=some (.slice E0):=hT
  have dR:∀(w:World)(a:Option Addr)(n c:Nat),(Builtin.len_ #[T] o.type #[.slice a n c]).run P w= .ok (.int .i64 n) w:=by
   intro w a n c
   simp[Builtin.len_,Sem.run_bind,run_underlying bO,goInt]
  split at h
  ·rename_i r ver sz off n hx
   obtain⟨Φ,h,hc⟩:=jR h
   refine⟨_,_,_,h,bm.pure fun p E H w al hr hh au=> ?_⟩
   have hv:=kp au
   rw[hx,ae] at hv
   obtain⟨a,c,hv,_⟩:=hv.2 (hc p E H w hr hh)
   exact⟨_,hex (by rw[hv];exact dR w a n c),by rw[ae]⟩
  ·rename_i r ver i off n hx
   obtain⟨Φ,h,hc⟩:=jR h
   refine⟨_,_,_,h,bm.pure fun p E H w al hr hh au=> ?_⟩
   have hv:=kp au
   rw[hx,ae] at hv
   obtain⟨a,c,hv,_⟩:=hv.2 (hc p E H w hr hh)
   exact⟨_,hex (by rw[hv];exact dR w a n c),by rw[ae]⟩
  ·rename_i z l hx
   refine⟨_,_,_,h,bm.pure fun p E H w al hr hh au=> ?_⟩
   have hv:=kp au
   rw[hx,ae] at hv
   obtain⟨a,n,c,hv,rfl,_⟩:=hv
   exact⟨_,hex (by rw[hv];exact dR w a _ c),by rw[ae]⟩
  ·rename_i z sz α f d l hx
   refine⟨_,_,_,h,bm.pure fun p E H w al hr hh au=> ?_⟩
   have hv:=kp au
   rw[hx,ae] at hv
   obtain⟨a,n,c,hv,rfl,_⟩:=hv
   exact⟨_,hex (by rw[hv];exact dR w a _ c),by rw[ae]⟩
  ·rename_i hx
   refine⟨_,_,_,h,bm.pure fun p E H w al hr hh au=> ?_⟩
   have hv:=kp au
   rw[hx] at hv
   exact⟨_,hex (by rw[bq hv];exact dR w none 0 0),by rw[ae];rfl⟩
  ·exact h.elim
 ·rename_i hu
  rw[hu] at hT
  have bO:P.underlying T=some .string:=hT
  split at h
  ·rename_i s hx
   refine⟨_,_,_,h,bm.pure fun p E H w al hr hh au=> ?_⟩
   have hv:=kp au
   rw[hx] at hv
   refine⟨_,hex (v:= .int .i64 s.size) ?_,by rw[ae]⟩
   rw[bq hv]
   simp[Builtin.len_,Sem.run_bind,run_underlying bO,goInt]
  ·exact h.elim
 ·exact h.elim
def wT(mx:Bool)(x y:AV)(K:KF):Prop:=match x with
 | .val (.int k a)=>match y with
  | .val (.int _ b)=>K True (.val (.int k (if mx then max a b else min a b))) []
  | _=>False
 | _=>False
end

set_option linter.unusedVariables false
set_option linter.unusedSimpArgs false
open Go.RowKit
section
variable {P:Program} {o:Oper} {ev:Operand→AV} {hg:Nat→Option J}
def eU:AV→List AV
 | .agg l=>l
 | x=>[x]
def tF(hg:Nat→Option J):AV→Prop
 | .val v=>v.oneCell'=true
 | .bs _ _=>True
 | .sl _ _ _ _ _=>True
 | .cp _ _ _=>True
 | .clo _ _=>True
 | .own r ver _ _ _=>hJ hg r ver fun Φ=>Φ
 | .ref r ver _ _ _=>hJ hg r ver fun Φ=>Φ
 | .pl r ver _ _ _=>hJ hg r ver fun Φ=>Φ
 | _=>False
def jT(hg:Nat→Option J):List AV→Prop
 | []=>True
 | x::xs=>tF hg x∧jT hg xs
theorem Ee{x:AV}(h:tF hg x){E:Env}{H:List J}{w:World}(hr:HR E w H)(hh:∀(r:Nat)(e:J),hg r=some e→H[r]? =some e){v:Value}(hv:ae E w x v):v.oneCell'=true:=by
 cases x<;>simp only[tF] at h<;>rw[ae] at hv
 case val u=>rw[hv];exact h
 case bs z l=>obtain⟨a,n,c,rfl,_⟩:=hv;rfl
 case sl=>obtain⟨a,n,c,rfl,_⟩:=hv;rfl
 case own r ver sz off n=>
  obtain⟨Φ,h1,h2⟩:=jR h
  obtain⟨a,c,rfl,_⟩:=hv.2 (h2 h1 E H w hr hh);rfl
 case ref r ver sz i j=>
  obtain⟨Φ,h1,h2⟩:=jR h
  rw[hv.2 (h2 h1 E H w hr hh)];rfl
 case pl r ver i off n=>
  obtain⟨Φ,h1,h2⟩:=jR h
  obtain⟨a,c,rfl,_⟩:=hv.2 (h2 h1 E H w hr hh);rfl
 case cp=>obtain⟨b,o',cs,rfl,_⟩:=hv;rfl
 case clo=>obtain⟨cs,rfl,_⟩:=hv;rfl
theorem tG:∀{xs:List AV}(h:jT hg xs){E:Env}{H:List J}{w:World}(hr:HR E w H)(hh:∀(r:Nat)(e:J),hg r=some e→H[r]? =some e){vs:List Value}(hv:aq E w xs vs),∀u∈vs,u.oneCell'=true
 | [],_,E,H,w,hr,hh,vs,hv=>by rw[aq] at hv;subst hv;simp
 | x::xs,h,E,H,w,hr,hh,vs,hv=>by
  rw[aq] at hv
  obtain⟨v,dm,rfl,h1,h2⟩:=hv
  intro u hu
  rcases List.mem_cons.1 hu with rfl | hu
  ·exact Ee h.1 hr hh h1
  ·exact tG h.2 hr hh h2 u hu
theorem wU {x : AV} (h : jT hg (eU x)) {E : Env} {H : List J} {w : World} (hr : HR E w H) (hh : ∀ (r : Nat) (e : J), hg r = some e → H[r]? = some e) {v : Value} (hv : ae E w x v) :
    aq E w (eU x) v.cells.toList∧∀u∈v.cells.toList,u.oneCell'=true:=by
 have key:aq E w (eU x) v.cells.toList:=by
  cases x with
  | agg l=>
   rw[ae] at hv
   obtain⟨cs,rfl,h1⟩:=hv
   simpa [eU,Value.cells] using h1
  | _=>
   have h1:v.oneCell'=true:=Ee h.1 hr hh hv
   have:v.cells.toList=[v]:=by cases v<;>simp_all [Value.oneCell',Value.cells]
   rw[this]
   simp only[eU,aq]
   exact⟨v,[],rfl,hv,rfl⟩
 exact⟨key,tG h hr hh key⟩
theorem ia{E:Env}{w:World}:∀{xs ys:List AV}{us vs:List Value},aq E w xs us→aq E w ys vs→aq E w (xs++ys) (us++vs)
 | [],ys,us,vs,h,h'=>by rw[aq] at h;subst h;exact h'
 | x::xs,ys,us,vs,h,h'=>by
  rw[aq] at h
  obtain⟨v,dm,rfl,h1,h2⟩:=h
  simp only[List.cons_append,aq]
  exact⟨v,_,rfl,h1,ia h2 h'⟩
def eY(l:List AV)(j:Nat)(new:List AV):List AV:=dw l j++(new++dc l (j+new.length))
theorem Ef{E:Env}{w:World}{xs new:List AV}{us vs:List Value}(j:Nat)(h:aq E w xs us)(h':aq E w new vs):aq E w (eY xs j new) (us.take j++(vs++us.drop (j+vs.length))):=by
 unfold eY
 rw[js,jr,(eX h').1]
 exact ia (wM j h) (ia h' (rG _ h))
theorem Out.store {E : Env} {w : World} {H : List J} (hr : HR E w H) {r : Nat} {e : J} (he : H[r]? = some e) {i j : Nat} {ys new : List AV} {vs : List Value} (cK : e.bd.at i = some ys) {bd' : Bd} (ck : bd'.sz = e.bd.sz) (ib : bd'.count = e.bd.count)
    (cG:∀i' fE,bd'.at i'=some fE→(i'=i∧fE=eY ys j new)∨(i'≠i∧e.bd.at i'=some fE)) (fL:aq E w new vs) (jU:j+new.length≤e.bd.sz) (fY:bd'.oF=false):
    Out E E w (w.setCells (E.ρ r) (i*e.bd.sz+j) vs) H [(r,⟨e.ver,bd'⟩)]:=by
 have hc:e.bd.jq=true:=by cases hb:e.bd<;>simp[Bd.jq]<;>simp[hb,Bd.at] at cK
 have hl:=Bd.rC hc
 have br:¬E.abs r:=fun q=>by have:=hr.abs r e he q;have:=Bd.nK cK;omega
 obtain⟨cur,T,lo,hi,h1,h2,h3,h4⟩:=(hr.bS r e he ⟨hl,br⟩).aQ hc
 obtain⟨fp,hs⟩:=rL (E.ρ r) vs (i*e.bd.sz+j) w
 have dS:new.length=vs.length:=(eX fL).1
 have ah:=Bd.nK cK
 have tH:i*e.bd.sz+j+vs.length≤cur.size:=by
  have h5:(i+1)*e.bd.sz≤e.bd.count*e.bd.sz:=Nat.mul_le_mul_right _ ah
  rw[Nat.add_mul,Nat.one_mul] at h5
  omega
 have et:=tI w (E.ρ r) T (lo,hi) vs (i*e.bd.sz+j) cur h1 tH
 have iz:E.set r (E.ρ r) e.ver=E:=Env.wJ E rfl (hr.ver r e he).symm br
 have:=Out.one (w':=w.setCells (E.ρ r) (i*e.bd.sz+j) vs) (bd':=bd') (b:=E.ρ r) (v':=e.ver) hr he (Bd.pU fY) (.inl ⟨rfl,rfl,br⟩) (.inl ⟨rfl,hl,br⟩) fp.os fp.tape fp.output (by omega) (fun k hk aG=>fp.block k hk aG) ?_ ?_
 ·rw[iz] at this;exact this
 ·intro rM T2 zH h6
  rw[h1] at h6
  cases h6
  exact⟨_,_,_,et,by simp;omega⟩
 ·intro X
  rw[iz] at X⊢
  refine⟨fun _=>⟨_,_,_,_,et,?_,?_,?_⟩,fun _ _ _ e=>absurd e (Bd.pT fY)⟩
  ·rcases h2 with h | h
   ·exact .inl h
   ·refine .inr ?_
    simp only[List.size_toArray,List.length_append,List.length_take,List.length_drop,Array.length_toList]
    omega
  ·rw[ck,ib]
   simp only[List.size_toArray,List.length_append,List.length_take,List.length_drop,Array.length_toList]
   omega
  ·intro i' fE iA
   rw[ck]
   have de:cur.toList.length=cur.size:=by simp
   rcases cG i' fE iA with⟨rfl,rfl⟩ | ⟨aG,tJ⟩
   ·obtain⟨cs,h5,h6,h7⟩:=h4 i' ys cK
    refine⟨cs.take j++(vs++cs.drop (j+vs.length)),?_,fV X _ _ (Ef j h6 fL),?_⟩
    ·simp only[List.length_append,List.length_take,List.length_drop];omega
    ·intro k u hu
     simp only[List.getElem?_toArray,List.getElem?_append,List.getElem?_take,List.getElem?_drop,List.length_take,List.length_append,Array.length_toList] at hu⊢
     by_cases KG:k<j
     ·have a1:k<min j cs.length:=by omega
      have a2:i'*e.bd.sz+k<min (i'*e.bd.sz+j) cur.size:=by omega
      have a3:i'*e.bd.sz+k<min (i'*e.bd.sz+j) cur.size+vs.length:=by omega
      have a4:i'*e.bd.sz+k<i'*e.bd.sz+j:=by omega
      simp only[a1,if_true,KG] at hu
      simp only[a2,a3,a4,if_true]
      have:=h7 k u hu
      simpa using this
     ·by_cases UI:k<j+vs.length
      ·have a1:¬k<min j cs.length:=by omega
       have a2:¬i'*e.bd.sz+k<min (i'*e.bd.sz+j) cur.size:=by omega
       have a3:i'*e.bd.sz+k<min (i'*e.bd.sz+j) cur.size+vs.length:=by omega
       have a5:k - min j cs.length<vs.length:=by omega
       have a6:i'*e.bd.sz+k - min (i'*e.bd.sz+j) cur.size=k - min j cs.length:=by omega
       simp only[a1,a5,if_true,if_false] at hu
       simp only[a2,a3,if_true,if_false,a6]
       exact hu
      ·have a1:¬k<min j cs.length:=by omega
       have a3:¬i'*e.bd.sz+k<min (i'*e.bd.sz+j) cur.size+vs.length:=by omega
       have a5:¬k - min j cs.length<vs.length:=by omega
       simp only[a1,a5,if_false] at hu
       simp only[a3,if_false]
       have e1:j+vs.length+(k - min j cs.length - vs.length)=k:=by omega
       rw[e1] at hu
       have e2:i'*e.bd.sz+j+vs.length+(i'*e.bd.sz+k - (min (i'*e.bd.sz+j) cur.size+vs.length))=i'*e.bd.sz+k:=by omega
       rw[e2]
       have:=h7 k u hu
       simpa using this
   ·obtain⟨cs,h5,h6,h7⟩:=h4 i' fE tJ
    refine⟨cs,h5,fV X _ _ h6,fun k u hu=> ?_⟩
    have hk:k<e.bd.sz:=by have:=(List.getElem?_eq_some_iff.1 hu).1;omega
    have kJ:=Bd.nK tJ
    have hb:i'*e.bd.sz+k<cur.size:=by
     have h5:(i'+1)*e.bd.sz≤e.bd.count*e.bd.sz:=Nat.mul_le_mul_right _ kJ
     rw[Nat.add_mul,Nat.one_mul] at h5
     omega
    have nM:i'*e.bd.sz+k<i*e.bd.sz+j∨i*e.bd.sz+j+vs.length≤i'*e.bd.sz+k:=by
     rcases Nat.lt_or_gt_of_ne aG with h | h
     ·left
      have h5:(i'+1)*e.bd.sz≤i*e.bd.sz:=Nat.mul_le_mul_right _ h
      rw[Nat.add_mul,Nat.one_mul] at h5
      omega
     ·right
      have h5:(i+1)*e.bd.sz≤i'*e.bd.sz:=Nat.mul_le_mul_right _ h
      rw[Nat.add_mul,Nat.one_mul] at h5
      omega
    have:=h7 k u hu
    simp only[List.getElem?_toArray,List.getElem?_append,List.getElem?_take,List.getElem?_drop,List.length_take,List.length_append,Array.length_toList]
    rcases nM with h | h
    ·have a2:i'*e.bd.sz+k<min (i*e.bd.sz+j) cur.size:=by omega
     have a3:i'*e.bd.sz+k<min (i*e.bd.sz+j) cur.size+vs.length:=by omega
     simp only[a2,a3,h,if_true]
     simpa using this
    ·have a3:¬i'*e.bd.sz+k<min (i*e.bd.sz+j) cur.size+vs.length:=by omega
     simp only[a3,if_false]
     have e2:i*e.bd.sz+j+vs.length+(i'*e.bd.sz+k - (min (i*e.bd.sz+j) cur.size+vs.length))=i'*e.bd.sz+k:=by omega
     rw[e2]
     simpa using this
def zI(tb:TypeId→Option TI)(hg:Nat→Option J)(T:TypeId)(x y:AV)(K:KF):Prop:=match tb T with
 | none=>False
 | some ti=>match x with
  | .ref r ver sz i j=>match hg r with
   | none=>False
   | some e=>match e.bd with
    | .bytes l=>match y with
     | .val (.int .u8 n)=>K (ver=e.ver∧sz=1∧j=0∧i<l.length∧(0≤n∧n≤255)∧ti.sz=1) .any [(r,⟨e.ver,.bytes (l.set i (UInt8.ofNat n.toNat))⟩)]
     | _=>False
    | .row sz' f d l=>∃y',K (ver=e.ver∧sz=sz'∧i<l.length∧jT hg (eU y)∧(eU y).length=ti.sz∧j+ti.sz≤sz'∧f y'=eY (f (l.getD i d)) j (eU y)) .any [(r,⟨e.ver,.row sz' f d (l.set i y')⟩)]
    | .obj l=>K (ver=e.ver∧i=0∧jT hg (eU y)∧(eU y).length=ti.sz∧j+ti.sz≤l.length) .any [(r,⟨e.ver,.obj (eY l j (eU y))⟩)]
    | .dead=>False
    | .lp .. =>False
    | .az _=>False
  | .iQ r ver i k=>match hg r with
   | none=>False
   | some e=>match e.bd with
    | .az ls=>match y with
     | .val (.int .u8 n)=>K (ver=e.ver∧i<ls.length∧k< (ls.getD i []).length∧(0≤n∧n≤255)∧ti.sz=1) .any [(r,⟨e.ver,.az (ls.set i ((ls.getD i []).set k (UInt8.ofNat n.toNat)))⟩)]
     | _=>False
    | _=>False
  | _=>False
theorem Out.az {E : Env} {w w' : World} {H : List J} (hr : HR E w H) {r v : Nat} {ls tK : List (List UInt8)} (he : H[r]? = some ⟨v, .az ls⟩) {i b : Nat} (hb : E.pl r i = some b) (os : w'.os = w.os) (tape : w'.tape = w.tape) (output : w'.output = w.output) (size : w.heap.size ≤ w'.heap.size)
    (aQ:∀k,k<w.heap.size→k≠b→w'.heap[k]? =w.heap[k]?) (sz:∀cur T fz,w.heap[b]? =some (.cells cur T fz)→∃cW T' eS,w'.heap[b]? =some (.cells cW T' eS)∧cur.size≤cW.size)
    (hp:pV (E.pl r) w' tK):Out E E w w' H [(r,⟨v,.az tK⟩)]:=by
 have nL:r<H.length:=(List.getElem?_eq_some_iff.1 he).1
 have hB:aB E r ⟨v,.az ls⟩ b:= .inr ⟨rfl,i,hb⟩
 have gr:∀(k:Nat) cur T fz,w.heap[k]? =some (.cells cur T fz)→∃cW T' eS,w'.heap[k]? =some (.cells cW T' eS)∧cur.size≤cW.size:=fun k cur T fz hk=>by
  by_cases h:k=b
  ·subst h;exact sz cur T fz hk
  ·exact⟨cur,T,fz,by rw[aQ k (Array.getElem?_eq_some_iff.1 hk).1 h];exact hk,Nat.le_refl _⟩
 have X:Ext E E w w':=⟨fun _=>Nat.le_refl _,fun _ _=>rfl,fun _ _=>Iff.rfl,fun _ _ h=>h,fun z c hz=>aQ c (hr.cX z c hz) (fun q=>hr.dC r _ b he hB z (q▸hz)),gr,fun _ _ _ _ h=>h⟩
 have aI:∀(q:Nat)(e:J),(aM H [(r,⟨v,.az tK⟩)])[q]? =some e→q=r∧e=⟨v,.az tK⟩∨q≠r∧H[q]? =some e:=by
  intro q e h
  simp only[aM,bK] at h
  by_cases jQ:q=r
  ·subst jQ;rw[List.getElem?_set_self nL] at h;exact .inl ⟨rfl,(Option.some.inj h).symm⟩
  ·rw[List.getElem?_set_ne (Ne.symm jQ)] at h;exact .inr ⟨jQ,h⟩
 have aG:∀(q:Nat)(e:J),q≠r→H[q]? =some e→¬aB E q e b:=fun q e h1 h2 h3=>h1 (hr.inj q r e _ b h2 he h3 hB)
 have hblk:∀(q:Nat)(e:J)(c:Nat),(aM H [(r,⟨v,.az tK⟩)])[q]? =some e→aB E q e c→∃e0,H[q]? =some e0∧aB E q e0 c:=by
  intro q e c h h2
  rcases aI q e h with⟨rfl,rfl⟩ | ⟨_,h1⟩
  ·rcases h2 with⟨h2,_⟩ | ⟨_,h2⟩
   ·cases h2.1
   ·exact⟨_,he,.inr ⟨rfl,h2⟩⟩
  ·exact⟨e,h1,h2⟩
 refine⟨X,⟨?_,?_,?_,?_,fun z c h=>Nat.lt_of_lt_of_le (hr.cX z c h) size,?_,?_,hr.gl.ext X,?_⟩,os,tape,output,size,fun _ _ h=> .inl h,gr,?_,?_⟩
 ·intro q e h
  rcases aI q e h with⟨rfl,rfl⟩ | ⟨_,h2⟩
  ·exact hr.ver q ⟨v,.az ls⟩ he
  ·exact hr.ver q e h2
 ·intro q e h hl
  rcases aI q e h with⟨rfl,rfl⟩ | ⟨h1,h2⟩
  ·cases hl.1
  ·exact(hr.bS q e h2 hl).ext X (aQ _ (hr.lt h2 hl) (fun k=>aG q e h1 h2 (k▸aB.of hl)))
 ·intro q e h ha
  rcases aI q e h with⟨rfl,rfl⟩ | ⟨h1,h2⟩
  ·have:=hr.abs q _ he ha;cases this
  ·exact hr.abs q e h2 ha
 ·intro q q' e e' c h h' hl bA
  obtain⟨e0,h1,h2⟩:=hblk q e c h hl
  obtain⟨e1,h3,h4⟩:=hblk q' e' c h' bA
  exact hr.inj q q' e0 e1 c h1 h3 h2 h4
 ·intro q e c h hl
  obtain⟨e0,h1,h2⟩:=hblk q e c h hl
  exact hr.dC q e0 c h1 h2
 ·intro q h
  simp only[aM,bK,List.length_set] at h
  exact hr.top q h
 ·intro q u ms h
  rcases aI q _ h with⟨rfl,h1⟩ | ⟨h1,h2⟩
  ·cases h1;exact hp
  ·exact(hr.az q u ms h2).mL fun k c hc=>aQ c ((hr.az q u ms h2).lt hc) (fun q0=>aG q _ h1 h2 (q0▸.inr ⟨rfl,k,hc⟩))
 ·intro k hk h
  refine aQ k hk fun q=> ?_
  subst q
  exact h r _ he hB (by simp)
 ·intro q e c h hl
  obtain⟨e0,h1,h2⟩:=hblk q e c h hl
  exact .inr ⟨q,e0,h1,h2,.inl rfl⟩
theorem KH {T : TypeId} {ti : TI} (ht : bj P T ti) {E : Env} {w : World} {H : List J} (hr : HR E w H) {r : Nat} {e : J} (he : H[r]? = some e) {i j : Nat} {ys new : List AV} (cK : e.bd.at i = some ys) {v : Value}
    (fL:aq E w new v.cells.toList) (h1:∀u∈v.cells.toList,u.oneCell'=true) (hn:new.length=ti.sz) (jU:j+ti.sz≤e.bd.sz):
    (storeVar T ⟨E.ρ r,i*e.bd.sz+j,none⟩ v).run P w= .ok () (w.setCells (E.ρ r) (i*e.bd.sz+j) v.cells.toList):=by
 have hc:e.bd.jq=true:=by cases hb:e.bd<;>simp[Bd.jq]<;>simp[hb,Bd.at] at cK
 have hl:=Bd.rC hc
 have br:¬E.abs r:=fun q=>by have:=hr.abs r e he q;have:=Bd.nK cK;omega
 obtain⟨cur,T',lo,hi,h2,h3,h4,h5⟩:=(hr.bS r e he ⟨hl,br⟩).aQ hc
 have dS:=(eX fL).1
 have ah:=Bd.nK cK
 have tH:i*e.bd.sz+j+ti.sz≤cur.size:=by
  have h5:(i+1)*e.bd.sz≤e.bd.count*e.bd.sz:=Nat.mul_le_mul_right _ ah
  rw[Nat.add_mul,Nat.one_mul] at h5
  omega
 exact Eg (n:=ti.sz) (fun w=>ht.sizeOf w) h2 (h3.imp Nat.le_of_eq id) rfl (by omega) tH h1
theorem KI{tb:TypeId→Option TI}(ay:cD P tb){T:TypeId}{x y:Operand}(ho:o.op= .store T x y){K:KF}(h:zI tb hg T (ev x) (ev y) K):∃Φ v us,K Φ v us∧bm P o ev hg Φ v us:=by
 unfold zI at h
 split at h
 ·exact h.elim
 rename_i ti bT
 have ht:=ay T ti bT
 split at h
 rotate_left
 ·rename_i r ver i k hx
  split at h
  ·exact h.elim
  rename_i e he
  split at h
  rotate_left
  ·exact h.elim
  rename_i ls hb
  split at h
  rotate_left
  ·exact h.elim
  rename_i n hy
  refine⟨_,_,_,h,fun p E H w al hr hh au=> ?_⟩
  obtain⟨p1,p2,p3,p4,p5⟩:=p
  have gw:=au x (by rw[ho];simp[aR])
  have jV:=au y (by rw[ho];simp[aR])
  rw[hx,ae] at gw
  rw[hy] at jV
  have hH:H[r]? =some ⟨e.ver,.az ls⟩:=by rw[hh r e he,←hb]
  obtain⟨b,h1,dx⟩:=gw.2 (p1.trans (hr.ver r _ hH).symm)
  have eD:ls[i]? =some (ls.getD i []):=by simp[List.getD,p2]
  have hP:=hr.az r _ ls hH
  obtain⟨cur,T0,lo,hi,g1,g2,g3,g4⟩:=hP.aQ i _ b eD h1
  have e1:((UInt8.ofNat n.toNat).toNat:Int)=n:=by simp;omega
  have bB:(storeVar T ⟨b,k,none⟩ (.int .u8 n)).run P w= .ok () (w.setCells b k [.int .u8 n]):=
   Eg (n:=ti.sz) (fun w=>ht.sizeOf w) g1 (g2.imp Nat.le_of_eq id) rfl (by rw[p5];rfl) (by omega) (by simp[Value.oneCell'])
  obtain⟨fp,hs⟩:=rL b [Value.int .u8 n] k w
  have et:=tI w b T0 (lo,hi) [Value.int .u8 n] k cur g1 (by simp;omega)
  refine⟨undef,_,E,.inr ⟨Eh ho dx (bq jV) bB,rfl⟩,by rw[ae];trivial,Out.az hr hH h1 fp.os fp.tape fp.output (by omega) (fun k' hk aG=>fp.block k' hk aG) (fun rM T2 zH h6=> ?_) ?_⟩
  ·rw[g1] at h6;cases h6
   exact⟨_,_,_,et,by simp;omega⟩
  ·refine⟨fun i' l' h7 h8=> ?_,fun i' l' b' h7 h8=> ?_,hP.inj,fun i' b' h7=>by rw[List.length_set];exact hP.top i' b' h7⟩
   ·rw[List.getElem?_set] at h7
    split at h7
    ·rename_i pZ;subst pZ;exact⟨b,h1⟩
    ·exact hP.has i' l' h7 h8
   ·rw[List.getElem?_set] at h7
    split at h7
    ·rename_i pZ;subst pZ
     cases h7
     rw[h1] at h8;cases h8
     refine⟨_,_,_,_,et,?_,?_,fun j x hx=> ?_⟩
     ·refine g2.imp id fun q=> ?_
      simp only[List.size_toArray,List.length_append,List.length_take,List.length_drop,Array.length_toList,List.length_cons,List.length_nil];omega
     ·simp only[List.size_toArray,List.length_append,List.length_take,List.length_drop,Array.length_toList,List.length_cons,List.length_nil,List.length_set];omega
     ·have lr:j< (ls.getD i []).length:=by have:=(List.getElem?_eq_some_iff.1 hx).1;simpa using this
      have e9:∀(u:Value),(cur.toList.take k++[u]++cur.toList.drop (k+1))=cur.toList.set k u:=fun u=>by
       rw[List.set_eq_take_append_cons_drop]
       rw[if_pos (by simp;omega)]
       simp
      rw[List.getElem?_toArray]
      simp only[List.length_cons,List.length_nil,Nat.zero_add]
      rw[e9,List.getElem?_set]
      rw[List.getElem?_set] at hx
      by_cases zJ:k=j
      ·subst zJ
       rw[if_pos rfl,if_pos p3] at hx
       cases hx
       rw[if_pos rfl,if_pos (by simp;omega)]
       simp only[bv];rw[e1]
      ·rw[if_neg zJ] at hx
       rw[if_neg zJ]
       have:=g4 j x hx
       simpa using this
    ·rename_i pZ
     have aG:b'≠b:=fun q=>pZ (hP.inj i i' b h1 (q▸h8))
     obtain⟨cW,T',kq,bP,g5,g6⟩:=hP.aQ i' l' b' h7 h8
     exact⟨cW,T',kq,bP,by rw[fp.block b' (hP.lt h8) aG];exact g5,g6⟩
 ·exact h.elim
 rename_i r ver sz i j hx
 split at h
 ·exact h.elim
 rename_i e he
 have fin : ∀ {Φ : Prop} {bd' : Bd}, bd'.oF = false → K Φ .any [(r, ⟨e.ver, bd'⟩)] → (Φ → ver = e.ver ∧ i * sz = i * e.bd.sz ∧ ∃ ys, e.bd.at i = some ys ∧ bd'.sz = e.bd.sz ∧ bd'.count = e.bd.count ∧ j + ti.sz ≤ e.bd.sz ∧ ∃ new, new.length = ti.sz ∧
     (∀(E:Env)(H:List J)(w:World)(v:Value),HR E w H→(∀(r:Nat)(e:J),hg r=some e→H[r]? =some e)→ae E w (ev y) v→aq E w new v.cells.toList∧∀u∈v.cells.toList,u.oneCell'=true)∧
     (∀i' fE,bd'.at i'=some fE→(i'=i∧fE=eY ys j new)∨(i'≠i∧e.bd.at i'=some fE)))→∃Φ v us,K Φ v us∧bm P o ev hg Φ v us:=by
  intro Φ bd' rN hK eb
  refine⟨Φ,_,_,hK,fun p E H w al hr hh au=> ?_⟩
  obtain⟨p1,p2,ys,cK,ck,ib,jU,new,fY,fL,cG⟩:=eb p
  have gw:=au x (by rw[ho];simp[aR])
  have jV:=au y (by rw[ho];simp[aR])
  obtain⟨Ei,rO⟩:=fL E H w _ hr hh jV
  rw[hx,ae] at gw
  have hH:=hh r e he
  have dx:=gw.2 (p1.trans (hr.ver r e hH).symm)
  rw[p2] at dx
  have bB:=KH ht hr hH cK Ei rO fY jU
  refine⟨undef,_,E,.inr ⟨Eh ho dx rfl bB,rfl⟩,by rw[ae];trivial,Out.store hr hH cK ck ib cG Ei (by omega) rN⟩
 have kM:e=⟨e.ver,e.bd⟩:=rfl
 split at h
 ·rename_i l hb
  split at h
  rotate_left
  ·exact h.elim
  rename_i n hy
  refine fin rfl h fun p=> ?_
  obtain⟨p1,p2,p3,p4,p5,p6⟩:=p
  refine⟨p1,by rw[hb,p2];rfl,[.val (bv (l.getD i 0))],?_,by rw[hb];rfl,by rw[hb];simp[Bd.count],by rw[hb,p3,p6];simp[Bd.sz],[.val (.int .u8 n)],by rw[p6];rfl,?_,?_⟩
  ·rw[hb];simp[Bd.at,p4,List.getD]
  ·intro E H w v hr hh hv
   rw[hy] at hv
   rw[bq hv]
   refine⟨?_,by simp[Value.cells,Value.oneCell']⟩
   simp only[Value.cells,aq,ae]
   exact⟨_,_,rfl,rfl,rfl⟩
  ·intro i' fE h'
   rw[hb]
   simp only[Bd.at,List.getElem?_set] at h'⊢
   by_cases hi:i=i'
   ·subst hi
    left
    simp only[if_true,p4,Option.map_some,Option.some.injEq] at h'
    refine⟨rfl,?_⟩
    rw[←h',p3]
    have e1:((UInt8.ofNat n.toNat).toNat:Int)=n:=by simp;omega
    simp[eY,dw,dc,bv];omega
   ·right
    simp only[hi,if_false] at h'
    exact⟨fun e=>hi e.symm,h'⟩
 ·rename_i sz' α f d l hb
  obtain⟨y',h⟩:=h
  refine fin rfl h fun p=> ?_
  obtain⟨p1,p2,p3,p4,p5,p6,p7⟩:=p
  refine⟨p1,by rw[hb,p2];rfl,f (l.getD i d),?_,by rw[hb];rfl,by rw[hb];simp[Bd.count],by rw[hb];exact p6,eU (ev y),p5,?_,?_⟩
  ·rw[hb];simp[Bd.at,p3,List.getD]
  ·exact fun E H w v hr hh hv=>wU p4 hr hh hv
  ·intro i' fE h'
   rw[hb]
   simp only[Bd.at,List.getElem?_set] at h'⊢
   by_cases hi:i=i'
   ·subst hi
    left
    simp only[if_true,p3,Option.map_some,Option.some.injEq] at h'
    exact⟨rfl,by rw[←h',p7]⟩
   ·right
    simp only[hi,if_false] at h'
    exact⟨fun e=>hi e.symm,h'⟩
 ·rename_i l hb
  refine fin rfl h fun p=> ?_
  obtain⟨p1,p2,p4,p5,p6⟩:=p
  have hlen:(eY l j (eU (ev y))).length=l.length:=by
   unfold eY
   rw[js,jr]
   simp only[List.length_append,List.length_take,List.length_drop];omega
  refine⟨p1,by rw[p2];simp,l,by rw[hb,p2];rfl,by rw[hb];exact hlen,by rw[hb];rfl,by rw[hb];exact p6,eU (ev y),p5,fun E H w v hr hh hv=>wU p4 hr hh hv,?_⟩
  intro i' fE h'
  rw[hb]
  simp only[Bd.at] at h'⊢
  split at h'
  ·rename_i hi
   left
   exact⟨by rw[hi,p2],(Option.some.inj h').symm⟩
  ·cases h'
 ·exact h.elim
 ·exact h.elim
 ·exact h.elim

theorem Out.new {E : Env} {w : World} {H : List J} (hr : HR E w H) {r : Nat} {e : J} (he : H[r]? = some e) {bd' : Bd} {cs : List Value} {T : TypeId} (ib : bd'.count * bd'.sz ≤ cs.length)
    (cK:∀i ys,bd'.at i=some ys→∃us,us.length=bd'.sz∧aq E w ys us∧∀j u,us[j]? =some u→cs[i*bd'.sz+j]? =some u) (fY:bd'.oF=false:=by rfl):
    Out E (E.set r w.heap.size (e.ver+1)) w (w.alloc (.cells cs.toArray T)) H [(r,⟨e.ver+1,bd'⟩)]:=by
 refine Out.one hr he (Bd.pU fY) (.inr (by omega)) (.inr (Nat.le_refl _)) rfl rfl rfl (by simp) (fun k hk _=>Below.heap_alloc _ _ _ hk) (fun cur T fz h=> ?_) (fun X=>⟨fun _=>⟨_,T,0,0,heap_alloc_new w _,.inl rfl,by simpa using ib,fun i ys hy=> ?_⟩,fun _ _ _ e=>absurd e (Bd.pT fY)⟩)
 ·have:=(Array.getElem?_eq_some_iff.1 h).1;omega
 ·obtain⟨us,h1,h2,h3⟩:=cK i ys hy
  exact⟨us,h1,fV X _ _ h2,fun j u hu=>by simpa using h3 j u hu⟩
def tL(hg:Nat→Option J)(p:Nat)(o:Oper)(cells:List AV)(K:KF):Prop:=match o.dst with
 | none=>False
 | some d=>match hg (p+d) with
  | none=>False
  | some e=>K True (.ref (p+d) (e.ver+1) cells.length 0 0) [(p+d,⟨e.ver+1,.obj cells⟩)]
theorem KJ {p : Nat} {cells : List AV} {K : KF} (h : tL hg p o cells K) (bB : ∀ (E : Env) (H : List J) (w : World) (al : Operand → Value), HR E w H → (∀ (r : Nat) (e : J), hg r = some e → H[r]? = some e) → (∀ x ∈ aR o.op, ae E w (ev x) (al x)) →
    ∃cs T,aq E w cells cs∧(execOp al o).run P w= .ok (.value (.pointer (some ⟨w.heap.size,0,none⟩))) (w.alloc (.cells cs.toArray T))):∃Φ v us,K Φ v us∧bm P o ev hg Φ v us:=by
 unfold tL at h
 split at h
 ·exact h.elim
 rename_i d hd
 split at h
 ·exact h.elim
 rename_i e he
 refine⟨_,_,_,h,fun p' E H w al hr hh au=> ?_⟩
 obtain⟨cs,T,h1,h2⟩:=bB E H w al hr hh au
 have hl:=(eX h1).1
 refine⟨_,_,_,.inl h2,?_,Out.new (T:=T) (cs:=cs) hr (hh _ _ he) (by simp[Bd.count,Bd.sz,hl]) (fun i ys hy=> ?_)⟩
 ·rw[ae,Env.kH,Env.ln]
  exact⟨Nat.le_refl _,fun _=>by simp⟩
 ·simp only[Bd.at] at hy
  split at hy
  ·rename_i hi
   subst hi
   cases hy
   exact⟨cs,hl.symm,h1,fun j u hu=>by simpa using hu⟩
  ·cases hy
def zK(tb:TypeId→Option TI)(hg:Nat→Option J)(p:Nat)(o:Oper)(T:TypeId)(K:KF):Prop:=match tb T with
 | none=>False
 | some ti=>tL hg p o (ti.zero.map .val) K
theorem nN{E:Env}{w:World}:∀(l:List Value),aq E w (l.map .val) l
 | []=>by simp[aq]
 | v::l=>by simp only[List.map_cons,aq,ae];exact⟨v,l,rfl,rfl,nN l⟩
theorem KK{tb:TypeId→Option TI}(ay:cD P tb){p:Nat}{T:TypeId}(ho:o.op= .alloc T){K:KF}(h:zK tb hg p o T K):∃Φ v us,K Φ v us∧bm P o ev hg Φ v us:=by
 unfold zK at h
 split at h
 ·exact h.elim
 rename_i ti bT
 obtain⟨z,hz,dT⟩:=(ay T ti bT).info
 obtain⟨i,hi,h1,h2,h3⟩:=info_parts hz
 refine KJ h fun E H w al hr hh au=>⟨ti.zero,T,nN _,?_⟩
 have e:z.cells=ti.zero.toArray:=by rw[←dT]
 unfold execOp
 simp[ho,Instr.alloc,zeroValue,typeInfo,hi,h1,newVar,newRow,e]
def zL(hg:Nat→Option J)(p:Nat)(o:Oper)(x:AV)(K:KF):Prop:=tL hg p o (eU x) fun Φ v us=>K (Φ∧jT hg (eU x)) v us
theorem KL{p:Nat}{T:TypeId}{x:Operand}(ho:o.op= .box T x){K:KF}(h:zL hg p o (ev x) K):∃Φ v us,K Φ v us∧bm P o ev hg Φ v us:=by
 unfold zL tL at h
 split at h
 ·exact h.elim
 rename_i d hd
 split at h
 ·exact h.elim
 rename_i e he
 refine⟨_,_,_,h,fun p' E H w al hr hh au=> ?_⟩
 have hv:=au x (by rw[ho];simp[aR])
 obtain⟨h1,_⟩:=wU p'.2 hr hh hv
 have hl:=(eX h1).1
 refine⟨.pointer (some ⟨w.heap.size,0,none⟩),w.alloc (.cells (al x).cells T),E.set (p+d) w.heap.size (e.ver+1),.inl ?_,?_,?_⟩
 ·unfold execOp
  simp[ho,Instr.box,newVar,newRow]
 ·rw[ae,Env.kH,Env.ln]
  exact⟨Nat.le_refl _,fun _=>by simp⟩
 ·have:=Out.new (T:=T) (cs:=(al x).cells.toList) (bd':= .obj (eU (ev x))) hr (hh _ _ he) (by simp[Bd.count,Bd.sz,hl]) (fun i ys hy=>by
    simp only[Bd.at] at hy
    split at hy
    ·rename_i hi
     subst hi
     cases hy
     exact⟨_,hl.symm,h1,fun j u hu=>by simpa using hu⟩
    ·cases hy)
  simpa using this
end

set_option linter.unusedVariables false
set_option linter.unusedSimpArgs false
open Go.RowKit
section
variable {P:Program} {o:Oper} {ev:Operand→AV} {hg:Nat→Option J}
def Env.ic(E:Env)(r v:Nat):Env:={E with ver:=fun k=>if k=r then v else E.ver k,abs:=fun k=>if k=r then True else E.abs k}
theorem Out.absent{E:Env}{w:World}{H:List J}{r0 v':Nat}{e0:J}{bd':Bd}(hr:HR E w H)(h0:H[r0]? =some e0)(hv:e0.ver<v')(hc:bd'.count=0):Out E (E.ic r0 v') w w H [(r0,⟨v',bd'⟩)]:=by
 have gu:=hr.ver r0 e0 h0
 have nL:r0<H.length:=(List.getElem?_eq_some_iff.1 h0).1
 have hP:bd'.gY=false:=by cases bd'<;>first | rfl | (simp[Bd.count] at hc)
 have v1:(E.ic r0 v').ver r0=v':=by simp[Env.ic]
 have v2:∀r,r≠r0→(E.ic r0 v').ver r=E.ver r:=fun r h=>by simp[Env.ic,h]
 have a1:(E.ic r0 v').abs r0:=by simp[Env.ic]
 have a2:∀r,r≠r0→((E.ic r0 v').abs r↔E.abs r):=fun r h=>by simp[Env.ic,h]
 have X:Ext E (E.ic r0 v') w w:=by
  refine⟨fun r=> ?_,fun r e=>rfl,fun r e=> ?_,fun z c h=>h,fun z c hz=>rfl,fun r cur T fz hc=>⟨cur,T,fz,hc,Nat.le_refl _⟩,fun _ _ _ _ h=>h⟩
  ·by_cases h:r=r0
   ·subst h;omega
   ·rw[v2 r h];exact Nat.le_refl _
  ·by_cases h:r=r0
   ·subst h;omega
   ·exact a2 r h
 have aI:∀(r:Nat)(e:J),(aM H [(r0,⟨v',bd'⟩)])[r]? =some e→r=r0∧e=⟨v',bd'⟩∨r≠r0∧H[r]? =some e:=by
  intro r e h
  simp only[aM,bK] at h
  by_cases jQ:r=r0
  ·subst jQ;rw[List.getElem?_set_self nL] at h;exact .inl ⟨rfl,(Option.some.inj h).symm⟩
  ·rw[List.getElem?_set_ne (Ne.symm jQ)] at h;exact .inr ⟨jQ,h⟩
 have b9:∀(r:Nat)(e:J),(aM H [(r0,⟨v',bd'⟩)])[r]? =some e→bN (E.ic r0 v') r e→H[r]? =some e∧bN E r e:=by
  intro r e h hl
  rcases aI r e h with⟨rfl,rfl⟩ | ⟨h1,h2⟩
  ·exact absurd a1 hl.2
  ·exact⟨h2,hl.1,fun q=>hl.2 ((a2 r h1).2 q)⟩
 have hblk:∀(r:Nat)(e:J)(b:Nat),(aM H [(r0,⟨v',bd'⟩)])[r]? =some e→aB (E.ic r0 v') r e b→H[r]? =some e∧aB E r e b:=by
  intro r e b h hb
  rcases hb with⟨hl,h3⟩ | ⟨h3,h4⟩
  ·obtain⟨h1,h2⟩:=b9 r e h hl
   exact⟨h1,.inl ⟨h2,h3⟩⟩
  ·rcases aI r e h with⟨rfl,rfl⟩ | ⟨h1,h2⟩
   ·exact absurd (hP.symm.trans h3) (by simp)
   ·exact⟨h2,.inr ⟨h3,h4⟩⟩
 refine⟨X,⟨?_,?_,?_,?_,hr.cX,?_,?_,hr.gl.ext X,?_⟩,rfl,rfl,rfl,Nat.le_refl _,fun _ _ h=> .inl h,fun _ cur T fz h=>⟨cur,T,fz,h,Nat.le_refl _⟩,fun _ _ _=>rfl,?_⟩
 ·intro r e h
  rcases aI r e h with⟨rfl,rfl⟩ | ⟨h1,h2⟩
  ·exact v1
  ·rw[v2 r h1];exact hr.ver r e h2
 ·intro r e h hl
  obtain⟨h1,h2⟩:=b9 r e h hl
  exact(hr.bS r e h1 h2).ext X rfl
 ·intro r e h ha
  rcases aI r e h with⟨rfl,rfl⟩ | ⟨h1,h2⟩
  ·exact hc
  ·exact hr.abs r e h2 ((a2 r h1).1 ha)
 ·intro r r' e e' b h h' hl bA
  obtain⟨h1,h2⟩:=hblk r e b h hl
  obtain⟨h3,h4⟩:=hblk r' e' b h' bA
  exact hr.inj r r' e e' b h1 h3 h2 h4
 ·intro r e b h hl z
  obtain⟨h1,h2⟩:=hblk r e b h hl
  exact hr.dC r e b h1 h2 z
 ·intro r h
  simp only[aM,bK,List.length_set] at h
  have aG:r≠r0:=by omega
  rw[v2 r aG,a2 r aG]
  exact hr.top r h
 ·intro r v ls h
  rcases aI r _ h with⟨rfl,h1⟩ | ⟨h1,h2⟩
  ·cases h1;cases hP
  ·exact hr.az r v ls h2
 ·intro r e b h hl
  obtain⟨h1,h2⟩:=hblk r e b h hl
  exact .inr ⟨r,e,h1,h2,.inl rfl⟩
structure Ap(P:Program)(T Tx ty:TypeId)(El:TypeId)(i:TypeInfo)(z xv:Value)(m:Nat)(news:List Value)(w:World):Prop where
 newsLen:news.length=m*i.size
 idle:m=0→∀a,(Builtin.append_ #[T,Tx] ty #[.slice a 0 0,xv]).run P w= .ok (.slice a 0 0) w
 room:∀b off eE gH,eE+m≤gH→(∀j,j<news.length→(w.cell? ⟨b,off+eE*i.size+j,none⟩).isSome=true)→(∀j,j<news.length→w.frozen? ⟨b,off+eE*i.size+j,none⟩=false)→
  (Builtin.append_ #[T,Tx] ty #[.slice (some ⟨b,off,none⟩) eE gH,xv]).run P w= .ok (.slice (some ⟨b,off,none⟩) (eE+m) gH) (w.setCells b (off+eE*i.size) news)
 grow:∀(base:Option Addr) eE gH(tM:List Value),(Builtin.firstCells i.size eE (.slice base eE gH)).run P w.drew= .ok tM.toArray w.drew→eE≤gH→gH<eE+m→((eE+m:Nat):Int)≤9223372036854775807→
  Builtin.nextslicecap (eE+m) gH*i.bytes≤281474976710656→m*i.bytes≤281474976710656→
  (Builtin.append_ #[T, Tx] ty #[.slice base eE gH, xv]).run P w = .ok (.slice (some ⟨w.heap.size, 0, none⟩) (eE + m) (grownCap w (eE + m) gH El))
      (w.drew.alloc (.cells ((tM++news).toArray++Builtin.zeroCells z.cells (grownCap w (eE+m) gH El - (eE+m))) El))
theorem Ap.KM{T Tx ty El:TypeId}{i:TypeInfo}{z xv:Value}{m:Nat}{news:List Value}{w:World}(hT:P.underlying T=some (.slice El))(hi:P.info? El=some i)(hz:i.zero=some z)(hs:Src P i.size Tx xv m news w):Ap P T Tx ty El i z xv m news w:=by
 refine⟨hs.newsLen,fun h0 a=> ?_,fun b off eE gH mO hc hf=>run_append_room_src w T Tx ty El i hT hi b off eE gH xv m news hs mO hc hf,fun base eE gH tM hold hle hg tN jU _=>run_append_grow_src w T Tx ty El i z hT hi hz base eE gH tM hold xv m news hs hg tN jU⟩
 subst h0
 have hn:news=[]:=List.eq_nil_of_length_eq_zero (by simpa using hs.newsLen)
 subst hn
 rcases hs.kind with⟨e',hk⟩ | hk<;>
  (cases a with
   | none=>simp[Builtin.append_,run_underlying hT,run_underlying hk,Go.sizeOf,typeInfo,hi,hs.len,hs.cells]
   | some a=>simp[Builtin.append_,run_underlying hT,run_underlying hk,Go.sizeOf,typeInfo,hi,hs.len,hs.cells,storeCells])
theorem Ej(u:Value)(n:Nat):Builtin.zeroCells #[u] n=(List.replicate n u).toArray:=by
 apply Array.ext'
 simp only[Builtin.zeroCells,List.size_toArray,List.length_cons,List.length_nil,Nat.zero_add,Nat.mul_one,Nat.mod_one,Array.toList_map,Array.toList_range]
 apply List.ext_getElem?
 intro i
 simp only[List.getElem?_map,List.getElem?_replicate]
 by_cases h:i<n
 ·simp[h,List.getElem?_range h]
 ·simp[h]
theorem Ap.KN {T Tx ty El : TypeId} {i : TypeInfo} {z u : Value} {k kn : IntKind} {m : Nat} {w : World} (hT : P.underlying T = some (.slice El)) (fZ : P.underlying Tx = some (.int kn)) (hi : P.info? El = some i) (hz : i.zero = some z) (dT : z.cells = #[u]) (hu : u.oneCell' = true) (ck : i.size = 1)
    (hm:m≤9223372036854775807) (hb:m*i.bytes≤281474976710656):Ap P T Tx ty El i z (.int k m) m (List.replicate m u) w:=by
 have hw:IntKind.i64.wrap (m:Int)=m:=by rw[IntKind.wrap_i64];omega
 have Ek:¬((m:Int)<0):=by omega
 have Em:¬(281474976710656< (m:Int)*(i.bytes:Int)):=by rw[←Int.natCast_mul];omega
 refine⟨by simp[ck],fun h0 a=> ?_,fun b off eE gH mO hc hf=> ?_,fun base eE gH tM hold hle hg tN jU _=> ?_⟩
 ·subst h0
  have wV:IntKind.i64.wrap 0=0:=hw
  cases a with
   | none=>simp[Builtin.append_,run_underlying hT,run_underlying fZ,Go.sizeOf,typeInfo,hi,asInt,asIntOf,wV]
   | some a=>simp[Builtin.append_,run_underlying hT,run_underlying fZ,Go.sizeOf,typeInfo,hi,asInt,asIntOf,wV,storeCells]
 ·have cr:=run_storeCells_cells (P:=P) b (off+eE*i.size) (List.replicate m u) 0 w (by simpa using hc) (by simpa using hf) (fun v hv=>by rw[List.eq_of_mem_replicate hv];exact hu)
  simp only[Nat.add_zero] at cr
  by_cases h0:m=0
  ·subst h0
   have wV:IntKind.i64.wrap 0=0:=hw
   have KO:eE≤gH:=mO
   simp only[List.replicate_zero] at cr⊢
   simp[Builtin.append_,run_underlying hT,run_underlying fZ,Go.sizeOf,typeInfo,hi,asInt,asIntOf,wV,KO,Addr.add_lit,cr]
  ·have lY:¬(m*i.size=0):=by rw[ck];omega
   simp[Builtin.append_,run_underlying hT,run_underlying fZ,Go.sizeOf,typeInfo,zeroValue,hi,hz,asInt,asIntOf,hw,Ek,Em,mO,lY,dT,Ej,Addr.add_lit,cr]
 ·have h0:m≠0:=by omega
  have lY:¬(m*i.size=0):=by rw[ck];omega
  have hn:¬(eE+m≤gH):=by omega
  have En:¬(9223372036854775807< ((eE:Int)+(m:Int))):=by omega
  have KP:¬(281474976710656<Builtin.nextslicecap (eE+m) gH*i.bytes):=by omega
  simp[Builtin.append_,run_underlying hT,run_underlying fZ,Go.sizeOf,typeInfo,zeroValue,hi,hz,asInt,asIntOf,hw,Ek,Em,hn,En,KP,lY,Question.forced,hold,newRow,grownCap,dT,Ej]
  congr 2
  apply Array.ext'
  simp[List.append_assoc,List.replicate_append_replicate]
theorem wW {T Tx El ty : TypeId} {ei : TI} (hT : P.underlying T = some (.slice El)) (hE : bj P El ei) {E : Env} {w : World} {H : List J} (hr : HR E w H) {r : Nat} {e : J} (he : H[r]? = some e) {ver sz n m : Nat} {v xv : Value}
    (hv:ae E w (.own r ver sz 0 n) v) (gu:ver=E.ver r) {news:List Value} {i:TypeInfo} {z:Value} (hi:P.info? El=some i) (lu:i.zero=some z) (lZ:i.size=ei.sz) (kN:i.bytes=ei.bytes) (dT:z.cells.toList=ei.zero) (hs:Ap P T Tx ty El i z xv m news w) {bd':Bd} (hn:e.bd.count=n) (ck:e.bd.sz=sz) (UJ:ei.sz=sz) (hc:e.bd.jq=true) (Eo:bd'.count=n+m) (qa:bd'.sz=sz) (qb:bd'.jq=true)
    (cK:∀i ys,bd'.at i=some ys→(i<n∧e.bd.at i=some ys)∨(n≤i∧∃us,us.length=sz∧aq E w ys us∧∀j u,us[j]? =some u→news[(i - n)*sz+j]? =some u)) (oO:∀i,i<n→∃ys,e.bd.at i=some ys)
    (KQ:(n+m)*ei.bytes≤140737488355328) (tN:n+m≤maxLen):
    ∃cv w' E',(Builtin.append_ #[T,Tx] ty #[v,xv]).run P w= .ok cv w'∧ae E' w' (.own r (e.ver+1) sz 0 (n+m)) cv∧Out E E' w w' H [(r,⟨e.ver+1,bd'⟩)]:=by
 have hl:=Bd.rC hc
 have rN:=Bd.tw qb
 rw[ae] at hv
 obtain⟨a,c,rfl,h1,h2,h3,h4⟩:=hv.2 gu
 have mP:i.size=sz:=by omega
 have fY:=hs.newsLen
 rw[mP] at fY
 have zM:z.cells.size=sz:=by have:=hE.oH;rw[←dT] at this;simp at this;omega
 have En:n+m≤9223372036854775807:=by simpa [maxLen] using tN
 have tO:=hr.ver r e he
 -- the old cells
 have hold : ∃ xs : List Value, xs.length = n * sz ∧ (∀ w2 : World, (∀ k : Nat, w2.heap[k]? = w.heap[k]?) → (Builtin.firstCells sz n (.slice a n c)).run P w2 = .ok xs.toArray w2) ∧
     ∀i' ys,e.bd.at i'=some ys→∃us,us.length=sz∧aq E w ys us∧∀j u,us[j]? =some u→xs[i'*sz+j]? =some u:=by
  by_cases fW:c=0
  ·have zN:n=0:=by omega
   subst zN
   refine⟨[],by simp,fun w2 _=> ?_,fun i' ys hy=> ?_⟩
   ·cases a with
    | none=>exact run_firstCells_none w2 sz 0 0 c
    | some ad=>exact run_firstCells_some w2 sz 0 ad 0 c [] (by simp) (fun j u h=>by simp at h)
   ·have:=Bd.nK hy;omega
  ·obtain⟨br,rfl,cur,T',fz,h5,h6⟩:=h4.resolve_left fW
   obtain⟨rM,T2,lo,bP,h7,h8,h9,km⟩:=(hr.bS r e he ⟨hl,br⟩).aQ hc
   rw[h5] at h7
   cases h7
   rw[hn,ck] at h9
   refine⟨cur.toList.take (n*sz),by simp;omega,fun w2 iB=> ?_,fun i' ys hy=> ?_⟩
   ·refine run_firstCells_some w2 sz n ⟨E.ρ r,0*sz,none⟩ n c _ (by simp;omega) (fun j u hu=> ?_)
    rw[Addr.add_lit,Nat.zero_mul,Nat.zero_add,cell_of_row w2 (E.ρ r) j cur T' (lo,bP) ((iB _).trans h5)]
    rw[List.getElem?_take] at hu
    split at hu
    ·simpa using hu
    ·cases hu
   ·obtain⟨us,nO,kr,kO⟩:=km i' ys hy
    refine⟨us,by omega,kr,fun j u hu=> ?_⟩
    have hj:j<sz:=by have:=(List.getElem?_eq_some_iff.1 hu).1;omega
    have ah:=Bd.nK hy
    rw[hn] at ah
    have:(i'+1)*sz≤n*sz:=Nat.mul_le_mul_right _ ah
    rw[Nat.add_mul,Nat.one_mul] at this
    rw[List.getElem?_take,if_pos (by omega)]
    have:=kO j u hu
    rw[ck] at this
    simpa using this
 obtain⟨xs,kt,Ep,KR⟩:=hold
 -- what the new row's cells are
 have fF:∀i' ys,bd'.at i'=some ys→∃us,us.length=sz∧aq E w ys us∧∀j u,us[j]? =some u→(xs++news)[i'*sz+j]? =some u:=by
  intro i' ys hy
  rcases cK i' ys hy with⟨h5,h6⟩ | ⟨h5,us,h6,h7,h8⟩
  ·obtain⟨us,h7,h8,h9⟩:=KR i' ys h6
   refine⟨us,h7,h8,fun j u hu=> ?_⟩
   have:=h9 j u hu
   rw[List.getElem?_append_left (List.getElem?_eq_some_iff.1 this).1];exact this
  ·refine⟨us,h6,h7,fun j u hu=> ?_⟩
   have e1:i'*sz=n*sz+(i' - n)*sz:=by rw[←Nat.add_mul];congr 1;omega
   rw[List.getElem?_append_right (by omega),kt,show i'*sz+j - n*sz=(i' - n)*sz+j by omega]
   exact h8 j u hu
 have hlen:(xs++news).length=(n+m)*sz:=by rw[List.length_append,kt,fY,Nat.add_mul]
 by_cases mO:n+m≤c
 ·by_cases fW:c=0
  ·-- nothing is appended to nothing
   have zN:n=0:=by omega
   have zB:m=0:=by omega
   subst zN;subst zB
   subst fW
   refine⟨.slice a 0 0,w,E.ic r (e.ver+1),hs.idle rfl a,?_,Out.absent hr he (by omega) (by omega)⟩
   ·rw[ae]
    exact⟨by simp[Env.ic],fun _=>⟨a,0,rfl,by omega,Nat.zero_le _,fun _=>rfl,.inl rfl⟩⟩
  ·obtain⟨br,rfl,cur,T',fz,h5,h6⟩:=h4.resolve_left fW
   clear h4 hv
   obtain⟨rM,T2,lo,bP,h7,h8,h9,km⟩:=(hr.bS r e he ⟨hl,br⟩).aQ hc
   rw[h5] at h7
   cases h7
   rw[Nat.zero_add] at h6
   have jU:n*sz+news.length≤cur.size:=by
    rw[fY,←Nat.add_mul];exact Nat.le_trans (Nat.mul_le_mul_right _ mO) h6
   have bB:=hs.room (E.ρ r) 0 n c mO
    (fun j hj=>by rw[mP,cell_of_row w _ _ cur T' (lo,bP) h5];simp;omega)
    (fun j hj=>by rw[mP];simp[World.frozen?,h5];intro h;rcases h8 with h' | h'<;>omega)
   rw[mP,Nat.zero_add] at bB
   rw[Nat.zero_mul]
   obtain⟨fp,wX⟩:=rL (E.ρ r) news (n*sz) w
   have et:=tI w (E.ρ r) T' (lo,bP) news (n*sz) cur h5 jU
   refine⟨_,_,E.set r (E.ρ r) (e.ver+1),bB,?_,Out.one hr he (Bd.pU rN) (.inr (by omega)) (.inl ⟨rfl,hl,br⟩) fp.os fp.tape fp.output (by omega) (fun k hk aG=>fp.block k hk aG) ?_ ?_⟩
   ·rw[ae,Env.kH,Env.ln]
    refine⟨Nat.le_refl _,fun _=>⟨_,c,rfl,mO,h2,(fun h=>by cases h),.inr ⟨Env.oK _ _ _ _,by rw[Nat.zero_mul],_,_,_,et,?_⟩⟩⟩
    rw[Nat.zero_add]
    simp only[List.size_toArray,List.length_append,List.length_take,List.length_drop,Array.length_toList]
    omega
   ·intro Er T3 Es nO
    rw[h5] at nO
    cases nO
    exact⟨_,_,_,et,by simp;omega⟩
   ·intro X
    refine⟨fun _=>⟨_,_,_,_,et,?_,?_,fun i' ys hy=> ?_⟩,fun _ _ _ e=>absurd e (Bd.pT rN)⟩
    ·rcases h8 with h | h
     ·exact .inl h
     ·refine .inr ?_
      simp only[List.size_toArray,List.length_append,List.length_take,List.length_drop,Array.length_toList]
      omega
    ·rw[Eo,qa,Nat.add_mul,←fY]
     simp only[List.size_toArray,List.length_append,List.length_take,List.length_drop,Array.length_toList]
     omega
    ·obtain⟨us,kr,kO,zO⟩:=fF i' ys hy
     rw[qa]
     refine⟨us,kr,fV X _ _ kO,fun j u hu=> ?_⟩
     have tP:=zO j u hu
     have ah:=(List.getElem?_eq_some_iff.1 tP).1
     have tQ:(cur.toList.take (n*sz)++news).length=(xs++news).length:=by simp[kt];omega
     -- the first cells are the old ones
     have tS:cur.toList.take (n*sz)=xs:=by
      have iC:=Ep w (fun _=>rfl)
      rw[run_firstCells_some w sz n ⟨E.ρ r,0*sz,none⟩ n c (cur.toList.take (n*sz)) (by simp;omega) (fun j u hu=>by
       rw[Addr.add_lit,Nat.zero_mul,Nat.zero_add,cell_of_row w (E.ρ r) j cur T' (lo,bP) h5]
       rw[List.getElem?_take] at hu
       split at hu
       ·simpa using hu
       ·cases hu)] at iC
      have KS:=(Result.ok.inj iC).1
      exact congrArg Array.toList KS |> fun h=>by simpa using h
     rw[List.getElem?_toArray,tS,List.getElem?_append_left ah]
     exact tP
 ·clear h4 hv
  have KT:=Ep w.drew (fun _=>rfl)
  have bB:=hs.grow a n c xs (by rw[mP];exact KT) h1 (by omega) (by omega) (growslice_fits (by omega) (by rw[kN];exact KQ)) (by rw[kN];have:=Nat.mul_le_mul_right ei.bytes (Nat.le_add_left m n);omega)
  have gh:=grownCap_ge w (n+m) c El
  have tT:=grownCap_le_maxLen w (n+m) c El tN
  refine⟨_,_,E.set r w.heap.size (e.ver+1),bB,?_,Out.one hr he (Bd.pU rN) (.inr (by omega)) (.inr (Nat.le_refl _)) rfl rfl rfl (by simp) (fun k hk _=>Below.heap_alloc w.drew _ k hk) (fun Er T3 Es nO=> ?_) (fun X=>⟨fun _=>⟨_,_,0,0,heap_alloc_new w.drew _,.inl rfl,?_,fun i' ys hy=> ?_⟩,fun _ _ _ e=>absurd e (Bd.pT rN)⟩)⟩
  ·rw[ae,Env.kH,Env.ln]
   refine⟨Nat.le_refl _,fun _=>⟨_,_,rfl,gh,tT,(fun h=>by cases h),.inr ⟨Env.oK _ _ _ _,by rw[Nat.zero_mul],_,_,_,heap_alloc_new w.drew _,?_⟩⟩⟩
   rw[Array.size_append,size_zeroCells,List.size_toArray,hlen,zM,←Nat.add_mul]
   exact Nat.mul_le_mul_right _ (by omega)
  ·have:=(Array.getElem?_eq_some_iff.1 nO).1;omega
  ·rw[Eo,qa,Array.size_append,List.size_toArray,hlen];omega
  ·obtain⟨us,kr,kO,zO⟩:=fF i' ys hy
   rw[qa]
   refine⟨us,kr,fV X _ _ kO,fun j u hu=> ?_⟩
   have tP:=zO j u hu
   have ah:=(List.getElem?_eq_some_iff.1 tP).1
   rw[Array.getElem?_append_left (by simpa using ah)]
   simpa using tP
theorem Et {E : Env} {w : World} {sz b : Nat} : ∀ (els : List (List AV)) (o : Nat), (∀ i ys, els[i]? = some ys → ∃ cs : List Value, cs.length = sz ∧ aq E w ys cs ∧ (∀ u ∈ cs, u.oneCell' = true) ∧ ∀ j u, cs[j]? = some u → w.cell? ⟨b, o + i * sz + j, none⟩ = some u) →
    ∃news:List Value,news.length=els.length*sz∧(∀j u,news[j]? =some u→w.cell? ⟨b,o+j,none⟩=some u)∧(∀u∈news,u.oneCell'=true)∧
     ∀i ys,els[i]? =some ys→∃cs:List Value,cs.length=sz∧aq E w ys cs∧∀j u,cs[j]? =some u→news[i*sz+j]? =some u
 | [],o,_=>⟨[],by simp,by simp,by simp,by simp⟩
 | y::els,o,h=>by
  obtain⟨cs,h1,h2,h3,h4⟩:=h 0 y rfl
  obtain⟨news,g1,g2,g3,g4⟩:=Et els (o+sz) (fun i ys hy=>by
   obtain⟨cs,k1,k2,k3,k4⟩:=h (i+1) ys (by simpa using hy)
   refine⟨cs,k1,k2,k3,fun j u hu=> ?_⟩
   have:=k4 j u hu
   rw[show o+(i+1)*sz+j=o+sz+i*sz+j by rw[Nat.add_mul,Nat.one_mul];omega] at this
   exact this)
  refine⟨cs++news,?_,?_,?_,?_⟩
  ·simp only[List.length_append,List.length_cons,h1,g1,Nat.add_mul,Nat.one_mul];omega
  ·intro j u hu
   rw[List.getElem?_append] at hu
   split at hu
   ·have:=h4 j u hu;simpa using this
   ·have:=g2 _ u hu
    rw[h1] at this
    rw[show o+j=o+sz+(j - sz) by omega];exact this
  ·intro u hu
   rcases List.mem_append.1 hu with h | h
   ·exact h3 u h
   ·exact g3 u h
  ·intro i ys hy
   cases i with
   | zero=>
    simp only[List.getElem?_cons_zero,Option.some.injEq] at hy
    subst hy
    exact⟨cs,h1,h2,fun j u hu=>by rw[Nat.zero_mul,Nat.zero_add,List.getElem?_append_left (List.getElem?_eq_some_iff.1 hu).1];exact hu⟩
   | succ i=>
    obtain⟨iV,k1,k2,k3⟩:=g4 i ys (by simpa using hy)
    refine⟨iV,k1,k2,fun j u hu=> ?_⟩
    rw[Nat.add_mul,Nat.one_mul,List.getElem?_append_right (by omega),h1,show i*sz+sz+j - sz=i*sz+j by omega]
    exact k3 j u hu
def dJ(l:List UInt8):List (List AV):=l.map fun b=>[.val (bv b)]
def zP(tb:TypeId→Option TI)(hg:Nat→Option J)(Tx:TypeId)(x:AV)(K:Prop→Nat→List (List AV)→Prop):Prop:=match tb Tx with
 | none=>False
 | some xi=>match xi.u with
  | .slice _=>match x with
   | .bs z m=>K True 1 (dJ m)
   | .sl z sz f d l=>K (∀x∈l,jT hg (f x)) sz (l.map f)
   | .val (.slice none 0 0)=>K True 0 []
   | .own r ver sz off n=>match hg r with
    | none=>False
    | some e=>match e.bd with
     | .bytes l=>K (ver=e.ver∧sz=1∧off+n≤l.length) 1 (dJ ((l.drop off).take n))
     | .row sz' f d l=>K (ver=e.ver∧sz=sz'∧off+n≤l.length∧∀x∈(l.drop off).take n,jT hg (f x)) sz' (((l.drop off).take n).map f)
     | .obj cells=>K (ver=e.ver∧sz=1∧off+n≤cells.length∧jT hg (dw (dc cells off) n)) 1 ((dw (dc cells off) n).map fun x=>[x])
     | _=>False
   | .pl r ver i off n=>match hg r with
    | none=>False
    | some e=>match e.bd with
     | .az ls=>K (ver=e.ver∧i<ls.length∧off+n≤(ls.getD i []).length) 1 (dJ (((ls.getD i []).drop off).take n))
     | _=>False
   | _=>False
  | .string=>match x with
   | .val (.string s)=>K True 1 (dJ s.data.toList)
   | _=>False
  | _=>False
theorem KU(hg:Nat→Option J)(l:List UInt8):∀ys∈dJ l,jT hg ys:=by
 intro ys hy
 obtain⟨b,_,rfl⟩:=List.mem_map.1 hy
 exact⟨rfl,trivial⟩
theorem KV {tb : TypeId → Option TI} (ay : cD P tb) {Tx : TypeId} {x : AV} {K : Prop → Nat → List (List AV) → Prop} (h : zP tb hg Tx x K) :
    ∃Ψ sz els,K Ψ sz els∧(Ψ→∀(E:Env)(H:List J)(w:World)(v:Value),HR E w H→(∀(r:Nat)(e:J),hg r=some e→H[r]? =some e)→ae E w x v→
     ∀sz',(els=[]∨sz'=sz)→∃news,Src P sz' Tx v els.length news w∧∀i ys,els[i]? =some ys→∃us:List Value,us.length=sz'∧aq E w ys us∧∀j u,us[j]? =some u→news[i*sz'+j]? =some u):=by
 unfold zP at h
 split at h
 ·exact h.elim
 rename_i xi tU
 have hT:=(ay Tx xi tU).u
 -- from cells that are there
 have fin : ∀ {E : Env} {H : List J} {w : World} {E0 : TypeId} {a : Option Addr} {c : Nat} {els : List (List AV)} {sz' : Nat}, P.underlying Tx = some (.slice E0) → els.length ≤ c → (a = none → c = 0) →
     (els=[]∨∃b o,a=some ⟨b,o,none⟩∧∀i ys,els[i]? =some ys→∃cs:List Value,cs.length=sz'∧aq E w ys cs∧(∀u∈cs,u.oneCell'=true)∧∀j u,cs[j]? =some u→w.cell? ⟨b,o+i*sz'+j,none⟩=some u)→
     ∃news,Src P sz' Tx (.slice a els.length c) els.length news w∧∀i ys,els[i]? =some ys→∃us:List Value,us.length=sz'∧aq E w ys us∧∀j u,us[j]? =some u→news[i*sz'+j]? =some u:=by
  intro E H w E0 a c els sz' fZ hle UL qc
  rcases qc with rfl | ⟨b,o,rfl,hc⟩
  ·refine⟨[],?_,by simp⟩
   cases a with
   | none=>exact Src.ofNil w fZ c
   | some ad=>exact Src.ofSlice w fZ ad 0 c [] (by simp) (by simp) (by simp)
  ·obtain⟨news,g1,g2,g3,g4⟩:=Et els o hc
   exact⟨news,Src.ofSlice w fZ ⟨b,o,none⟩ els.length c news g1 (fun j u hu=>by rw[Addr.add_lit];exact g2 j u hu) g3,g4⟩
 split at h
 ·rename_i E0 hu
  rw[hu] at hT
  have fZ:P.underlying Tx=some (.slice E0):=hT
  split at h
  ·rename_i z m
   refine⟨_,_,_,h,fun p E H w v hr hh hv sz' ck=> ?_⟩
   rw[ae] at hv
   obtain⟨a,n,c,rfl,rfl,h1,h2,h3,h4⟩:=hv
   have e:(dJ m).length=m.length:=by simp[dJ]
   have:=fin (E:=E) (H:=H) (w:=w) (a:=a) (c:=c) (els:=dJ m) (sz':=sz') fZ (by omega) h3 (by
    by_cases hm:m=[]
    ·left;simp[hm,dJ]
    ·right
     have ku:sz'=1:=ck.resolve_left (by simpa [dJ] using hm)
     subst ku
     obtain⟨x0,nP⟩:∃x0,m[0]? =some x0:=by cases m with | nil=>exact absurd rfl hm | cons a l=>exact⟨a,rfl⟩
     obtain⟨b,o,rfl,_,_⟩:=h4 0 x0 nP
     refine⟨b,o,rfl,fun i ys hy=> ?_⟩
     simp only[dJ,List.getElem?_map,Option.map_eq_some_iff] at hy
     obtain⟨x,hx,rfl⟩:=hy
     obtain⟨b',o',hb,_,cT⟩:=h4 i x hx
     cases hb
     refine⟨[bv x],rfl,by simp only[aq,ae];exact⟨_,_,rfl,rfl,rfl⟩,by simp[bv,Value.oneCell'],fun j u hu=> ?_⟩
     cases j with
     | zero=>simp at hu;subst hu;rw[Nat.mul_one,Nat.add_zero];exact cT
     | succ j=>simp at hu)
   rw[e] at this
   rw[e];exact this
  ·rename_i z sz α f d l
   refine⟨_,_,_,h,fun p E H w v hr hh hv sz' ck=> ?_⟩
   rw[ae] at hv
   obtain⟨a,n,c,rfl,rfl,h1,h2,h3,h4⟩:=hv
   have e:(l.map f).length=l.length:=by simp
   have:=fin (E:=E) (H:=H) (w:=w) (a:=a) (c:=c) (els:=l.map f) (sz':=sz') fZ (by omega) h3 (by
    by_cases hm:l=[]
    ·left;simp[hm]
    ·right
     have ku:sz'=sz:=ck.resolve_left (by simpa using hm)
     subst ku
     obtain⟨x0,nP⟩:∃x0,l[0]? =some x0:=by cases l with | nil=>exact absurd rfl hm | cons a l=>exact⟨a,rfl⟩
     obtain⟨b,o,KW,rfl,_⟩:=h4 0 x0 nP
     refine⟨b,o,rfl,fun i ys hy=> ?_⟩
     simp only[List.getElem?_map,Option.map_eq_some_iff] at hy
     obtain⟨x,hx,rfl⟩:=hy
     obtain⟨b',o',cs,hb,_,hl,cA,cT⟩:=h4 i x hx
     cases hb
     exact⟨cs,hl,cA,tG (p x (List.mem_of_getElem? hx)) hr hh cA,cT⟩)
   rw[e] at this
   rw[e];exact this
  ·refine⟨_,_,_,h,fun p E H w v hr hh hv sz' ck=> ?_⟩
   rw[bq hv]
   exact⟨[],Src.ofNil w fZ 0,by simp⟩
  ·rename_i r ver sz off n
   split at h
   ·exact h.elim
   rename_i e he
   -- the row's cells
   have row : ∀ {E : Env} {H : List J} {w : World} {v : Value} {sz' : Nat} {els : List (List AV)}, HR E w H → (∀ (r : Nat) (e : J), hg r = some e → H[r]? = some e) → ae E w (.own r ver sz off n) v → ver = e.ver → sz = e.bd.sz → sz' = sz ∨ els = [] → els.length = n →
       (∀i ys,els[i]? =some ys→e.bd.at (off+i)=some ys∧jT hg ys)→
       ∃news,Src P sz' Tx v els.length news w∧∀i ys,els[i]? =some ys→∃us:List Value,us.length=sz'∧aq E w ys us∧∀j u,us[j]? =some u→news[i*sz'+j]? =some u:=by
    intro E H w v sz' els hr hh hv gu ck KX hlen nQ
    rw[ae] at hv
    have hH:=hh r e he
    obtain⟨a,c,rfl,h1,h2,h3,h4⟩:=hv.2 (gu.trans (hr.ver r e hH).symm)
    have:=fin (E:=E) (H:=H) (w:=w) (a:=a) (c:=c) (els:=els) (sz':=sz') fZ (by omega) h3 (by
     by_cases hm:els=[]
     ·exact .inl hm
     ·right
      have ku:sz'=sz:=KX.resolve_right hm
      have hn:els.length≠0:=fun e=>hm (List.eq_nil_of_length_eq_zero e)
      obtain⟨br,rfl,_⟩:=h4.resolve_left (by omega)
      refine⟨_,_,rfl,fun i ys hy=> ?_⟩
      obtain⟨h5,h6⟩:=nQ i ys hy
      obtain⟨cs,h7,h8,h9⟩:=hr.cells hH h5
      refine⟨cs,by omega,h8,tG h6 hr hh h8,fun j u hu=> ?_⟩
      have:=h9 j u hu
      rw[←ck,Nat.add_mul] at this
      rw[ku]
      exact this)
    rw[hlen] at this⊢;exact this
   split at h
   ·rename_i l hb
    refine⟨_,_,_,h,fun p E H w v hr hh hv sz' ck=> ?_⟩
    obtain⟨p1,p2,p3⟩:=p
    refine row hr hh hv p1 (by rw[hb,p2];rfl) (ck.symm.imp (fun h=>h.trans p2.symm) id) (by simp[dJ];omega) (fun i ys hy=>⟨?_,KU hg _ ys (List.mem_of_getElem? hy)⟩)
    rw[hb]
    simp only[dJ,List.getElem?_map,Option.map_eq_some_iff,List.getElem?_take,List.getElem?_drop] at hy
    obtain⟨x,hx,rfl⟩:=hy
    split at hx
    ·simp[Bd.at,hx]
    ·cases hx
   ·rename_i UM α f d l hb
    refine⟨_,_,_,h,fun p E H w v hr hh hv sz' ck=> ?_⟩
    obtain⟨p1,p2,p3,p4⟩:=p
    refine row hr hh hv p1 (by rw[hb,p2];rfl) (ck.symm.imp (fun h=>h.trans p2.symm) id) (by simp;omega) (fun i ys hy=> ?_)
    rw[hb]
    simp only[List.getElem?_map,Option.map_eq_some_iff] at hy
    obtain⟨x,hx,rfl⟩:=hy
    refine⟨?_,p4 x (List.mem_of_getElem? hx)⟩
    simp only[List.getElem?_take,List.getElem?_drop] at hx
    split at hx
    ·simp[Bd.at,hx]
    ·cases hx
   ·rename_i cells hb
    refine⟨_,_,_,h,fun p E H w v hr hh hv sz' ck=> ?_⟩
    obtain⟨p1,p2,p3,p4⟩:=p
    rw[ae] at hv
    have hH:=hh r e he
    obtain⟨a,c,rfl,h1,h2,h3,h4⟩:=hv.2 (p1.trans (hr.ver r e hH).symm)
    obtain⟨cs,c1,c2,c3⟩:=hr.cells hH (i:=0) (ys:=cells) (by rw[hb];rfl)
    rw[Nat.zero_mul] at c3
    have hR:aq E w (dw (dc cells off) n) ((cs.drop off).take n):=by
     rw[js,jr];exact wM n (rG off c2)
    have hlen:((dw (dc cells off) n).map fun x=>[x]).length=n:=by rw[js,jr];simp;omega
    have:=fin (E:=E) (H:=H) (w:=w) (a:=a) (c:=c) (els:=(dw (dc cells off) n).map fun x=>[x]) (sz':=sz') fZ (by omega) h3 (by
     by_cases hm:(dw (dc cells off) n).map (fun x=>[x])=[]
     ·exact .inl hm
     ·right
      have ku:sz'=1:=ck.resolve_left hm
      subst ku
      have hn:n≠0:=fun q=>hm (List.eq_nil_of_length_eq_zero (by rw[hlen,q]))
      obtain⟨br,rfl,_⟩:=h4.resolve_left (by omega)
      refine⟨_,_,rfl,fun i ys hy=> ?_⟩
      rw[List.getElem?_map,Option.map_eq_some_iff] at hy
      obtain⟨x,hx,rfl⟩:=hy
      obtain⟨u,hu,fo⟩:=(eX hR).2 i x hx
      have zQ:=tG p4 hr hh hR u (List.mem_of_getElem? hu)
      refine⟨[u],rfl,by simp only[aq];exact⟨u,[],rfl,fo,rfl⟩,by simpa using zQ,fun j u' jt=> ?_⟩
      cases j with
      | succ j=>simp at jt
      | zero=>
       simp only[List.getElem?_cons_zero,Option.some.injEq] at jt
       subst jt
       rw[List.getElem?_take] at hu
       split at hu
       ·rw[List.getElem?_drop] at hu
        have:=c3 (off+i) u hu
        rw[Nat.zero_add] at this
        rw[p2,Nat.mul_one,Nat.mul_one,Nat.add_zero]
        exact this
       ·cases hu)
    rw[hlen] at this⊢;exact this
   ·exact h.elim
  ·rename_i r ver i off n
   split at h
   ·exact h.elim
   rename_i e he
   split at h
   rotate_left
   ·exact h.elim
   rename_i ls hb
   refine⟨_,_,_,h,fun p E H w v hr hh hv sz' ck=> ?_⟩
   obtain⟨p1,p2,p3⟩:=p
   have hH:H[r]? =some ⟨e.ver,.az ls⟩:=by rw[hh r e he,←hb]
   obtain⟨a,c,rfl,h1,h2,h3,h4⟩:=hr.wL hH (l:=ls.getD i []) (by simp[List.getD,p2]) p3 p1 hv
   generalize hm:((ls.getD i []).drop off).take n=m at h4 ck⊢
   have hn:m.length=n:=by rw[←hm,List.length_take,List.length_drop];omega
   have e:(dJ m).length=n:=by simp[dJ,hn]
   have:=fin (E:=E) (H:=H) (w:=w) (a:=a) (c:=c) (els:=dJ m) (sz':=sz') fZ (by omega) h3 (by
    by_cases hm:m=[]
    ·left;simp[hm,dJ]
    ·right
     have ku:sz'=1:=ck.resolve_left (by simpa [dJ] using hm)
     subst ku
     obtain⟨x0,nP⟩:∃x0,m[0]? =some x0:=by cases m with | nil=>exact absurd rfl hm | cons a l=>exact⟨a,rfl⟩
     obtain⟨b,_,rfl,_⟩:=h4 0 x0 nP
     refine⟨b,off,rfl,fun i ys hy=> ?_⟩
     simp only[dJ,List.getElem?_map,Option.map_eq_some_iff] at hy
     obtain⟨x,hx,rfl⟩:=hy
     obtain⟨b',_,hb,cT⟩:=h4 i x hx
     cases hb
     refine⟨[bv x],rfl,by simp only[aq,ae];exact⟨_,_,rfl,rfl,rfl⟩,by simp[bv,Value.oneCell'],fun j u hu=> ?_⟩
     cases j with
     | zero=>simp at hu;subst hu;rw[Nat.mul_one,Nat.add_zero];exact cT
     | succ j=>simp at hu)
   rw[e] at this
   rw[e];exact this
  ·exact h.elim
 ·rename_i hu
  rw[hu] at hT
  have fZ:P.underlying Tx=some .string:=hT
  split at h
  rotate_left
  ·exact h.elim
  rename_i s
  refine⟨_,_,_,h,fun p E H w v hr hh hv sz' ck=> ?_⟩
  rw[bq hv]
  have e:(dJ s.data.toList).length=s.size:=by simp[dJ]
  by_cases hm:s.data.toList=[]
  ·have e0:s.size=0:=by rw[←e,hm];rfl
   refine⟨[],?_,by simp[hm,dJ]⟩
   have e1:(dJ s.data.toList).length=0:=by rw[e,e0]
   rw[e1]
   have zR:s=ByteArray.empty:=by
    cases s with
    | mk a=>simp at hm;subst hm;rfl
   have h9:=Src.ofString w fZ s
   have KY:byteCells s=[]:=by unfold byteCells;rw[hm];rfl
   rw[KY,e0] at h9
   exact⟨h9.kind,h9.len,by simp[Builtin.firstCells,zR],by simp[Builtin.firstCells,zR],by simp,by simp⟩
  ·have ku:sz'=1:=ck.resolve_left (by simpa [dJ] using hm)
   subst ku
   refine⟨byteCells s,by rw[e];exact Src.ofString w fZ s,fun i ys hy=> ?_⟩
   simp only[dJ,List.getElem?_map,Option.map_eq_some_iff] at hy
   obtain⟨x,hx,rfl⟩:=hy
   refine⟨[bv x],rfl,by simp only[aq,ae];exact⟨_,_,rfl,rfl,rfl⟩,fun j u hu=> ?_⟩
   cases j with
   | zero=>simp at hu;subst hu;simp only[byteCells,Nat.mul_one,Nat.add_zero,List.getElem?_map,hx];rfl
   | succ j=>simp at hu
 ·exact h.elim
end
end Go.Proofs.YtpbpiehcchannaaGreatDoor
