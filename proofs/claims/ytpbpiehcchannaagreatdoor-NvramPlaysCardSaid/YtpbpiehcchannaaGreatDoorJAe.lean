/- Abstract values: ranges over functions. Conditions: the premises of each law. -/
import Derived.Test.YtpbpiehcchannaaGreatDoorJAc
import Derived.RangeFuncRecord
namespace Go.Proofs.YtpbpiehcchannaaGreatDoor
set_option linter.unusedVariables false
set_option linter.unusedSimpArgs false
open Go.RowKit
section
variable {P:Program}
def kZ:List U→Nat→List (Nat×U)
 | [],_=>[]
 | e::es,n=>(n,e)::kZ es (n+1)
theorem Dd:∀(C A B:List U),B.length=C.length→aK (A++B) (kZ C A.length)=A++C
 | [],A,[],_=>by simp[kZ,aK]
 | c::C,A,b::B,h=>by
  simp only[kZ,aK,bI]
  have e:(A++b::B).set A.length c=(A++[c])++B:=by simp
  have e2:A.length+1=(A++[c]).length:=by simp
  rw[e,e2,Dd C (A++[c]) B (by simpa using h)]
  simp
theorem sQ{H H2:List U}(h:H2.length=H.length):aK H (kZ H2 0)=H2:=by simpa using Dd H2 [] H h.symm
theorem yK:∀(C:List U)(n r:Nat),n≤r→r<n+C.length→r∈(kZ C n).map (·.1)
 | [],n,r,h1,h2=>by simp at h2;omega
 | c::C,n,r,h1,h2=>by
  simp only[kZ,List.map_cons,List.mem_cons]
  by_cases q:r=n
  ·exact .inl q
  ·exact .inr (yK C (n+1) r (by omega) (by simp at h2;omega))
theorem Jq{w:World}{b o:Nat}{v:Value}(h:w.cell? ⟨b,o,none⟩=some v):∃cur T fz,w.heap[b]? =some (.cells cur T fz):=by
 unfold World.cell? at h
 simp only at h
 split at h
 ·rename_i cur T fz hb;exact⟨cur,T,fz,hb⟩
 ·cases h
/-! a block that holds no cells becomes another one -/
structure o3(E:Env)(w:World)(H:List U)(l:Nat):Prop where
 cell:∀cur T fz,w.heap[l]? ≠some (.cells cur T fz)
 aD:∀z,¬E.aD z l
 row:∀(r:Nat)(e:U),H[r]? =some e→¬aE E r e l
theorem o3.ext{E:Env}{w:World}{H:List U}{l:Nat}(h:o3 E w H l)(o:Obj):Ext E E w (w.putObj l o):=
 ⟨fun _=>Nat.le_refl _,fun _ _=>rfl,fun _ _=>Iff.rfl,fun _ _ h=>h,fun z b hz=>World.putObj_heap_other (fun q=>h.aD z (q▸hz)),fun r cur T fz hc=>⟨cur,T,fz,by rw[World.putObj_heap_other (fun q=>h.cell cur T fz (by rw[←q];exact hc))];exact hc,Nat.le_refl _⟩,fun _ _ _ _ h=>h⟩
theorem o3.hr{E:Env}{w:World}{H:List U}{l:Nat}(h:o3 E w H l)(o:Obj)(hr:HR E w H):HR E (w.putObj l o) H:=
 ⟨hr.ver,fun r e nO hl=>(hr.bM r e nO hl).ext (h.ext o) (World.putObj_heap_other (fun q=>h.row r e nO (q▸aE.of hl))),hr.abs,hr.inj,fun z b hz=>by rw[World.putObj_size];exact hr.cJ z b hz,hr.dj,hr.top,hr.gl.ext (h.ext o),fun r v ls bb=>(hr.aB r v ls bb).lx fun i b hb=>World.putObj_heap_other (fun q=>h.row r _ bb (.inr ⟨rfl,i,q▸hb⟩))⟩
theorem HR.kill{E:Env}{w:World}{H:List U}(hr:HR E w H){r0:Nat}{e0:U}(h0:H[r0]? =some e0):HR E w (aH H r0 ⟨e0.ver,.dead⟩):=by
 have aL:∀(r:Nat)(e:U),(aH H r0 ⟨e0.ver,.dead⟩)[r]? =some e→r=r0∧e=⟨e0.ver,.dead⟩∨r≠r0∧H[r]? =some e:=by
  intro r e h
  rw[bI,List.getElem?_set] at h
  by_cases q:r0=r
  ·subst q
   rw[if_pos rfl,if_pos (List.getElem?_eq_some_iff.1 h0).1] at h
   exact .inl ⟨rfl,(Option.some.inj h).symm⟩
  ·rw[if_neg q] at h
   exact .inr ⟨fun h=>q h.symm,h⟩
 have cn:∀(r:Nat)(e:U),(aH H r0 ⟨e0.ver,.dead⟩)[r]? =some e→bH E r e→r≠r0∧H[r]? =some e:=by
  intro r e h hl
  rcases aL r e h with⟨rfl,rfl⟩ | h
  ·cases hl.1
  ·exact h
 have hblk:∀(r:Nat)(e:U)(b:Nat),(aH H r0 ⟨e0.ver,.dead⟩)[r]? =some e→aE E r e b→r≠r0∧H[r]? =some e:=by
  intro r e b h hl
  rcases aL r e h with⟨rfl,rfl⟩ | h
  ·exact absurd hl aE.dead
  ·exact h
 refine⟨fun r e h=> ?_,fun r e h hl=>hr.bM r e (cn r e h hl).2 hl,fun r e h ha=> ?_,fun r r' e e' b h h' hl bu=>hr.inj r r' e e' b (hblk r e b h hl).2 (hblk r' e' b h' bu).2 hl bu,hr.cJ,fun r e b h hl=>hr.dj r e b (hblk r e b h hl).2 hl,fun r h=>hr.top r (by rwa [bI,List.length_set] at h),hr.gl,fun r v ls h=> ?_⟩
 ·rcases aL r e h with⟨rfl,rfl⟩ | ⟨_,h⟩
  ·exact hr.ver r e0 h0
  ·exact hr.ver r e h
 ·rcases aL r e h with⟨rfl,rfl⟩ | ⟨_,h⟩
  ·rfl
  ·exact hr.abs r e h ha
 ·rcases aL r _ h with⟨_,h1⟩ | ⟨_,h⟩
  ·cases h1
  ·exact hr.aB r v ls h
theorem HR.raise{E:Env}{w:World}{H:List U}(hr:HR E w H){r0 v:Nat}(h0:H[r0]? =some ⟨v,.dead⟩){bd':Bd}(hP:bd'.jq=false)(bM:fx E w (E.ρ r0) bd')(fresh:∀(r:Nat)(e:U),H[r]? =some e→¬aE E r e (E.ρ r0))(hz:∀z,¬E.aD z (E.ρ r0))(lU:¬E.abs r0):HR E w (aH H r0 ⟨v,bd'⟩):=by
 have aL:∀(r:Nat)(e:U),(aH H r0 ⟨v,bd'⟩)[r]? =some e→r=r0∧e=⟨v,bd'⟩∨r≠r0∧H[r]? =some e:=by
  intro r e h
  rw[bI,List.getElem?_set] at h
  by_cases q:r0=r
  ·subst q
   rw[if_pos rfl,if_pos (List.getElem?_eq_some_iff.1 h0).1] at h
   exact .inl ⟨rfl,(Option.some.inj h).symm⟩
  ·rw[if_neg q] at h
   exact .inr ⟨fun h=>q h.symm,h⟩
 have own:∀{b:Nat},aE E r0 ⟨v,bd'⟩ b→E.ρ r0=b:=by
  rintro b (⟨_,h⟩ | ⟨h,_⟩)
  ·exact h
  ·rw[hP] at h;cases h
 refine⟨fun r e h=> ?_,fun r e h hl=> ?_,fun r e h ha=> ?_,fun r r' e e' b h h' hl bu=> ?_,hr.cJ,fun r e b h hl=> ?_,fun r h=>hr.top r (by rwa [bI,List.length_set] at h),hr.gl,fun r v ls h=> ?_⟩
 ·rcases aL r e h with⟨rfl,rfl⟩ | ⟨_,h⟩
  ·exact(hr.ver r _ h0:E.ver r=v)
  ·exact hr.ver r e h
 ·rcases aL r e h with⟨rfl,rfl⟩ | ⟨_,h⟩
  ·exact bM
  ·exact hr.bM r e h hl
 ·rcases aL r e h with⟨rfl,rfl⟩ | ⟨_,h⟩
  ·exact absurd ha lU
  ·exact hr.abs r e h ha
 ·rcases aL r e h with⟨rfl,rfl⟩ | ⟨n1,h1⟩
  ·rcases aL r' e' h' with⟨rfl,rfl⟩ | ⟨n2,h2⟩
   ·rfl
   ·exact absurd bu (own hl▸fresh r' e' h2)
  ·rcases aL r' e' h' with⟨rfl,rfl⟩ | ⟨n2,h2⟩
   ·exact absurd hl (own bu▸fresh r e h1)
   ·exact hr.inj r r' e e' b h1 h2 hl bu
 ·rcases aL r e h with⟨rfl,rfl⟩ | ⟨_,h⟩
  ·exact own hl▸hz
  ·exact hr.dj r e b h hl
 ·rcases aL r _ h with⟨_,h1⟩ | ⟨_,h⟩
  ·cases h1;cases hP
  ·exact hr.aB r _ ls h
/-! temporaries -/
def TR(E:Env)(w:World)(t:List AV)(vs:Array Value):Prop:=t.length=vs.size∧∀(i:Nat)(x:AV),t[i]? =some x→ah E w x (vs.getD i undef)
theorem TR.De{E:Env}{w:World}{t:List AV}{vs:Array Value}(h:aw E w t vs.toList):TR E w t vs:=by
 obtain⟨h1,h2⟩:=eR h
 refine⟨by simpa using h1,fun i x hx=> ?_⟩
 obtain⟨v,hv,hr⟩:=h2 i x hx
 have:vs.getD i undef=v:=by
  rw[Array.getD_eq_getD_getElem?]
  have:vs[i]? =some v:=by simpa using hv
  rw[this];rfl
 rw[this];exact hr
theorem TR.Jr{E:Env}{w:World}{t:List AV}{vs:Array Value}(h:TR E w t vs):aw E w t vs.toList:=
 rC (by simpa using h.1) (fun i x v hx hv=>by
  have:=h.2 i x hx
  have qG:vs[i]? =some v:=by simpa using hv
  rw[Array.getD_eq_getD_getElem?,qG] at this
  exact this)
def lV:List AV→List Tmp→List AV→List AV
 | t,p::ps,x::xs=>lV (aH t p x) ps xs
 | t,_,_=>t
theorem TR.put{E:Env}{w:World}:∀{ps:List Tmp}{args:List AV}{cargs:List Value}{t:List AV}{vs:Array Value},TR E w t vs→aw E w args cargs→TR E w (lV t ps args) ((ps.zip cargs).foldl (fun tmps x=>tmps.setIfInBounds x.1 x.2) vs)
 | [],args,cargs,t,vs,h,ha=>by simpa [lV] using h
 | p::ps,[],cargs,t,vs,h,ha=>by
  simp only[Go.Proofs.YtpbpiehcchannaaGreatDoor.aw] at ha
  subst ha
  simpa [lV] using h
 | p::ps,x::xs,cargs,t,vs,h,ha=>by
  simp only[Go.Proofs.YtpbpiehcchannaaGreatDoor.aw] at ha
  obtain⟨v,cQ,rfl,h1,h2⟩:=ha
  simp only[lV,List.zip_cons_cons,List.foldl_cons]
  refine TR.put ?_ h2
  refine⟨by simp[bI,h.1],fun i y hy=> ?_⟩
  rw[bI,List.getElem?_set] at hy
  by_cases q:p=i
  ·subst q
   rw[if_pos rfl] at hy
   split at hy
   ·rename_i ai
    cases hy
    have hp:p<vs.size:=by rw[←h.1];exact ai
    rw[Array.getD_eq_getD_getElem?,Array.getElem?_setIfInBounds_self_of_lt hp]
    exact h1
   ·cases hy
  ·rw[if_neg q] at hy
   rw[Array.getD_eq_getD_getElem?,Array.getElem?_setIfInBounds_ne q,←Array.getD_eq_getD_getElem?]
   exact h.2 i y hy
/-! a round -/
def Js(K:St→Prop)(e:Ex)(s:St):Prop:=match e with
 | .normal=>K s
 | _=>False
def Jt(rw ver:Nat)(i:pM)(tR:List AV)(s:St)(dst:Option Tmp)(K0:St→Prop)(e:Ex)(s2:St):Prop:=
 s2.H.length=s.H.length∧aT s2.H rw=some ⟨ver,.dead⟩∧match e with
 | .normal=>K0 ⟨aV s.t dst (.val (.bool true)),aH s2.H rw ⟨ver,.lp i tR none⟩⟩
 | .exit id=>K0 ⟨aV s.t dst (.val (.bool false)),aH s2.H rw ⟨ver,.lp i tR (some (.exit id))⟩⟩
 | .ret=>K0 ⟨aV s.t dst (.val (.bool false)),aH s2.H rw ⟨ver,.lp i tR (some .ret)⟩⟩
theorem Rel.Ju {w0 : World} {keep : Bs} {E : Env} {s : St} {a : Act} {w : World} (h : Rel w0 keep E s a w) {l : Nat} (o : Obj) (ho : ∀ cur T fz, o ≠ .cells cur T fz) (hp : o3 E w s.H l) (hd : a.defers = []) :
    Rel (w0.putObj l o) keep E s a (w.putObj l o):=by
 have X:=hp.ext o
 have aF:∀(k:Nat) cur T fz,(w0.putObj l o).heap[k]? =some (.cells cur T fz)→k≠l:=by
  rintro k cur T fz hc rfl
  by_cases ai:k<w0.heap.size
  ·rw[World.putObj_heap_same ai] at hc
   exact ho _ _ _ (Option.some.inj hc)
  ·have:=(Array.getElem?_eq_some_iff.1 hc).1
   rw[World.putObj_size] at this
   exact ai this
 refine⟨h.len,fun i x hx=>eF X x _ (h.tmps i x hx),⟨fun _=>hd,by rw[hd];exact Marks.nil _ _ _⟩,hp.hr o h.hr,⟨h.fr.os,h.fr.tape,h.fr.output,by simpa using h.fr.size,fun k hk cC=> ?_,fun k cur T fz hc=> ?_,fun r e b hr hl ai=>h.fr.rows r e b hr hl (by simpa using ai)⟩,?_,fun z b hz=>by simpa using h.aD z b hz,fun r e b hr hl=>by simpa using h.rows r e b hr hl⟩
 ·by_cases q:k=l
  ·subst q
   have ai:k<w0.heap.size:=by simpa using hk
   have:=h.fr.size
   rw[World.putObj_heap_same (by omega),World.putObj_heap_same ai]
  ·rw[World.putObj_heap_other q,World.putObj_heap_other q]
   exact h.fr.block k (by simpa using hk) cC
 ·have q:=aF k cur T fz hc
  rw[World.putObj_heap_other q] at hc⊢
  exact h.fr.grow k cur T fz hc
 ·refine⟨h.ext.ver,h.ext.di,h.ext.abs,h.ext.aD,fun z b hz=> ?_,fun k cur T fz hc=> ?_,h.ext.pl⟩
  ·have q:b≠l:=fun q=>hp.aD z (q▸h.ext.aD z b hz)
   rw[World.putObj_heap_other q,World.putObj_heap_other q]
   exact h.ext.cell z b hz
  ·have q:=aF _ cur T fz hc
   rw[World.putObj_heap_other q] at hc⊢
   exact h.ext.grow k cur T fz hc
theorem mM:∀{c:Code},fC c=true→ec c=true
 | .skip,_=>rfl
 | .label _,_=>rfl
 | .region ..,_=>rfl
 | .seq a b,h=>by
  simp only[fC,Bool.and_eq_true] at h
  simp only[ec,Bool.and_eq_true]
  exact⟨mM h.1,mM h.2⟩
 | .cond _ a b,h=>by
  simp only[fC,Bool.and_eq_true] at h
  simp only[ec,Bool.and_eq_true]
  exact⟨mM h.1,mM h.2⟩
 | .block _ b,h=>by simp only[fC] at h;simp only[ec];exact mM h
 | .loop b,h=>by simp only[fC] at h;simp only[ec];exact mM h
 | .scope b,h=>by simp only[fC] at h;simp only[ec];exact mM h
 | .exit _,_=>rfl
 | .ret,_=>rfl
 | .rangeFunc ..,h=>by cases h
 | .goto _,h=>rfl
 | .refuse _,h=>rfl
theorem yL {tb : TypeId → Option TI} (aA : cj P tb) {p rw ver : Nat} {i : pM} {tR : List AV} {args : List AV} {s : St} {dst : Option Tmp} {K0 : St → Prop}
    (dK:aT s.H rw=some ⟨ver,.lp i tR none⟩) (o4:fC i.fX=true) (mN:fC i.body=true) (hlen:args.length=i.ps.size)
    (h:fm tb P p i.fX (Js (fm tb P p i.body (Jt rw ver i tR s dst K0))) ⟨lV tR i.ps.toList args,aH s.H rw ⟨ver,.dead⟩⟩):
    qj P rw ver args s.H (qh s dst K0):=by
 rw[bS] at dK
 unfold qj
 refine⟨⟨_,by rw[bS];exact dK,rfl⟩,fun v us=>qh s dst K0 v us,fun E w cargs hr cr r n=> ?_,fun v us h=>h⟩
 have bo:¬E.abs rw:=fun q=>by have:=hr.abs rw _ dK q;simp[Bd.count] at this
 have cn:bH E rw ⟨ver,.lp i tR none⟩:=⟨rfl,bo⟩
 obtain⟨gL,R,nP,sh,fW,Df,P2,Jv,Dg,Dh,Jw⟩:=(hr.bM rw _ dK cn).lp _ _ _ rfl
 obtain⟨l,hl⟩:∃l,l=E.ρ rw:=⟨_,rfl⟩
 rw[←hl] at nP⊢
 have ai:l<w.heap.size:=(Array.getElem?_eq_some_iff.1 nP).1
 have fK:=(eR cr).1
 have gh:E.ver rw=ver:=hr.ver rw _ dK
 have hy:=run_yield (P:=P) (args:=cargs.toArray) nP (by rw[sh];simp;omega)
 refine⟨_,_,_,_,hy,roundIn_of_wpIn trivial ?_⟩
 rw[sh,fW,Df,Dg]
 -- the rows without the record
 obtain⟨Hx,u6⟩:∃Hx,Hx=aH s.H rw ⟨ver,.dead⟩:=⟨_,rfl⟩
 rw[←u6] at h
 have Jx:HR E w Hx:=by rw[u6];exact hr.kill dK
 have P3:∀(q:Nat)(e:U),Hx[q]? =some e→bH E q e→q≠rw∧s.H[q]? =some e:=by
  intro q e he hle
  rw[u6,bI,List.getElem?_set] at he
  by_cases qq:rw=q
  ·subst qq
   rw[if_pos rfl,if_pos (List.getElem?_eq_some_iff.1 dK).1] at he
   cases he
   cases hle.1
  ·rw[if_neg qq] at he
   exact⟨fun h=>qq h.symm,he⟩
 have u7:∀(q:Nat)(e:U)(b:Nat),Hx[q]? =some e→aE E q e b→q≠rw∧s.H[q]? =some e:=by
  intro q e b he hle
  rw[u6,bI,List.getElem?_set] at he
  by_cases qq:rw=q
  ·subst qq
   rw[if_pos rfl,if_pos (List.getElem?_eq_some_iff.1 dK).1] at he
   cases he
   exact absurd hle aE.dead
  ·rw[if_neg qq] at he
   exact⟨fun h=>qq h.symm,he⟩
 have yM:aE E rw ⟨ver,.lp i tR none⟩ l:=hl▸aE.of cn
 have jD:(nF E Hx True).keep l:=by
  intro q e he hle
  obtain⟨h1,h2⟩:=u7 q e l he hle
  exact h1 (hr.inj q rw e _ l h2 dK hle yM)
 have sR:∀z,¬E.aD z l:=fun z=>by rw[hl];exact hr.tM rw _ dK cn z
 have dL:R.state= .ready:=by rw[Jv];rfl
 have oF:Rel w (nF E Hx True) E ⟨lV tR i.ps.toList args,Hx⟩ {tmps:=(i.ps.zip cargs.toArray).foldl (fun tmps x=>tmps.setIfInBounds x.1 x.2) i.tv,defers:=[]} w:=by
  have ht:=TR.put (ps:=i.ps.toList) (TR.De Dh) cr
  have he:(i.ps.zip cargs.toArray).foldl (fun tmps x=>tmps.setIfInBounds x.1 x.2) i.tv=(i.ps.toList.zip cargs).foldl (fun tmps x=>tmps.setIfInBounds x.1 x.2) i.tv:=by
   rw[←Array.foldl_toList,Array.toList_zip]
  rw[←he] at ht
  exact⟨ht.1,ht.2,⟨fun _=>rfl,Marks.nil _ _ _⟩,Jx,⟨rfl,rfl,rfl,Nat.le_refl _,fun _ _ _=>rfl,fun _ cur T fz h=>⟨cur,T,fz,h,Nat.le_refl _⟩,fun r e b he hl _ hk=>hk r e he hl⟩,Ext.refl _ _,fun _ _ h=> .inl h,fun r e b he hl=> .inr ⟨r,e,he,hl⟩⟩
 -- no row made or kept lies where the record lies
 have off:∀{wb:World}{s1:St}{E1:Env}{a1:Act}{w1:World},wb.heap.size=w.heap.size→Rel wb (nF E Hx True) E1 s1 a1 w1→(∀z,¬E1.aD z l)∧∀(q:Nat)(e:U),s1.H[q]? =some e→¬aE E1 q e l:=by
  intro wb s1 E1 a1 w1 o5 hR
  refine⟨fun z hz=> ?_,fun q e he hle=> ?_⟩
  ·rcases hR.aD z l hz with h1 | h1 | ⟨q0,e0,h1,h2⟩
   ·exact sR z h1
   ·omega
   ·exact jD q0 e0 h1 h2
  ·rcases hR.rows q e l he hle with h1 | ⟨q0,e0,h1,h2⟩
   ·omega
   ·exact jD q0 e0 h1 h2
 obtain⟨ob,yN⟩:∃ob:Obj,ob= .loop {R with state:= .busy}:=⟨_,rfl⟩
 have fin : ∀ (jump : Option Code) (s2 : St) (E2 : Env) (a2 : Act) (w2 : World), Rel (w.putObj l ob) (nF E Hx True) E2 s2 a2 w2 → s2.H.length = s.H.length → aT s2.H rw = some ⟨ver, .dead⟩ →
     (Instr.endRound l jump).run P w2= .ok (.bool jump.isNone) (w2.putObj l (.loop {R with state:=if jump.isNone then .ready else .done,pending:=jump}))∧
     Out E E2 w (w2.putObj l (.loop {R with state:=if jump.isNone then .ready else .done,pending:=jump})) s.H (kZ (aH s2.H rw ⟨ver,.lp i tR jump⟩) 0):=by
  intro jump s2 E2 a2 w2 j5 rX yO
  rw[bS] at yO
  have o5:(w.putObj l ob).heap.size=w.heap.size:=World.putObj_size
  have gp:w2.heap[l]? =some ob:=(j5.fr.block l (by rw[o5];exact ai) jD).trans (World.putObj_heap_same ai)
  rw[yN] at gp
  obtain⟨o1,o2⟩:=off o5 j5
  have iA:=run_endRound (P:=P) jump gp
  simp only at iA
  refine⟨iA,?_⟩
  obtain⟨R',hU⟩:∃R':Loop,R'={R with state:=if jump.isNone then .ready else .done,pending:=jump}:=⟨_,rfl⟩
  rw[←hU]
  have pk:o3 E2 w2 s2.H l:=⟨fun cur T fz q=>(by rw[gp] at q;cases q),o1,o2⟩
  have sS:∀(k:Nat) cur T fz,w.heap[k]? =some (.cells cur T fz)→k≠l:=by
   rintro k cur T fz hc rfl
   rw[nP] at hc;cases hc
  have XX:Ext E E2 w (w2.putObj l (.loop R')):=by
   have X:=j5.ext
   refine⟨X.ver,X.di,X.abs,X.aD,fun z b hz=> ?_,fun k cur T fz hc=> ?_,X.pl⟩
   ·have hb:b≠l:=fun q=>sR z (q▸hz)
    rw[World.putObj_heap_other hb]
    exact(X.cell z b hz).trans (World.putObj_heap_other hb)
   ·have hb:=sS _ _ _ _ hc
    rw[World.putObj_heap_other hb]
    exact X.grow k cur T fz ((World.putObj_heap_other (o:=ob) hb).trans hc)
  have sT:E2.ver rw=E.ver rw:=by rw[j5.hr.ver rw _ yO,gh]
  have u9:E2.ρ rw=l:=(XX.di rw sT).trans hl.symm
  have Jy:¬E2.abs rw:=fun q=>bo ((XX.abs rw sT).1 q)
  have Jz:HR E2 (w2.putObj l (.loop R')) (aH s2.H rw ⟨ver,.lp i tR jump⟩):=by
   refine HR.raise (pk.hr _ j5.hr) yO rfl ⟨fun q=>(by cases q),fun i' B8 B9 e=> ?_⟩ (fun q e h1=>by rw[u9];exact o2 q e h1) (fun z=>by rw[u9];exact o1 z) Jy
   simp only[Bd.lp.injEq] at e
   obtain⟨rfl,rfl,rfl⟩:=e
   rw[u9]
   refine⟨hl.trans gL,R',World.putObj_heap_same (Array.getElem?_eq_some_iff.1 gp).1,by rw[hU];exact sh,by rw[hU];exact fW,by rw[hU];exact Df,by rw[hU],by rw[hU],by rw[hU];exact Dg,fw XX _ _ Dh,fun D hD=> ?_⟩
   obtain⟨⟨z,hz⟩,hd⟩:=Jw D hD
   exact⟨⟨z,XX.aD z D hz⟩,(XX.cell z D hz).trans hd⟩
  refine⟨XX,by rw[sQ (by simp[bI,rX])];exact Jz,j5.fr.os,j5.fr.tape,j5.fr.output,?_,fun z b hz=> ?_,fun k cur T fz hc=> ?_,fun k hk aF=> ?_,fun q e b he hle=> ?_⟩
  ·have:=j5.fr.size;rw[o5] at this;rw[World.putObj_size];exact this
  ·have h:=j5.aD z b hz
   rw[o5] at h
   exact h.imp id (Or.imp id fun⟨q0,e0,h1,h2⟩=>⟨q0,e0,(u7 q0 e0 b h1 h2).2,h2⟩)
  ·have hb:=sS _ _ _ _ hc
   rw[World.putObj_heap_other hb]
   exact j5.fr.grow k cur T fz (by rw[World.putObj_heap_other hb];exact hc)
  ·have eI:∀(q:Nat)(e:U),s.H[q]? =some e→¬aE E q e k:=by
     intro q e h1 h2
     have hq:=(List.getElem?_eq_some_iff.1 h1).1
     exact aF q e h1 h2 (yK _ 0 q (Nat.zero_le _) (by simp[bI,rX];exact hq))
   have cE:k≠l:=fun q=>eI rw _ dK (q▸yM)
   rw[World.putObj_heap_other cE]
   refine(j5.fr.block k (by rw[o5];exact hk) (fun q e h1 h2=> ?_)).trans (World.putObj_heap_other cE)
   exact eI q e (u7 q e k h1 h2).2 h2
  ·rw[sQ (by simp[bI,rX])] at he
   rw[bI,List.getElem?_set] at he
   by_cases qq:rw=q
   ·subst qq
    rw[if_pos rfl] at he
    have ij:b=l:=by
     split at he
     ·cases he
      rcases hle with⟨_,h3⟩ | ⟨h3,_⟩
      ·exact h3.symm.trans u9
      ·cases h3
     ·cases he
    exact .inr ⟨rw,_,dK,ij▸yM,.inl rfl⟩
   ·rw[if_neg qq] at he
    rcases j5.rows q e b he hle with h1 | ⟨q0,e0,h1,h2⟩
    ·left;rw[o5] at h1;exact h1
    ·have hm:=(u7 q0 e0 b h1 h2).2
     exact .inr ⟨q0,e0,hm,h2,.inr (yK _ 0 q0 (Nat.zero_le _) (by simp[bI,rX];exact(List.getElem?_eq_some_iff.1 hm).1))⟩
 refine wpIn_mono (kQ aA (r:=some l) (n:=n) h (.inr o4) (fun _=>mM o4) oF) fun e a1 w1⟨ex,s1,E1,he,vd,hq⟩=> ?_
 subst he
 cases ex with
 | exit id=>exact hq.elim
 | ret=>exact hq.elim
 | normal=>
  have gY:w1.heap[l]? =some (.loop R):=(vd.fr.block l ai jD).trans nP
  obtain⟨o1,o2⟩:=off rfl vd
  refine⟨_,run_beginRound gY dL,?_⟩
  have JA:=vd.Ju ob (by rw[yN];intro _ _ _ q;cases q) ⟨fun cur T fz q=>(by rw[gY] at q;cases q),o1,o2⟩ (vd.defers.1 trivial)
  rw[←yN]
  refine wpIn_mono (kQ aA (r:=some l) (n:=n) hq (.inr mN) (fun _=>mM mN) JA) fun e a2 w2⟨ex,s2,E2,he,yP,jv,mN,hK⟩=> ?_
  subst he
  cases ex with
  | normal=>
   obtain⟨f1,f2⟩:=fin none s2 E2 a2 w2 yP jv mN
   exact⟨_,_,f1,_,rfl,_,_,E2,by show K0 ⟨aV s.t dst (.val (.bool true)),aK s.H (kZ _ 0)⟩;rw[sQ (by simp[bI,jv])];exact hK,by rw[ah];rfl,f2⟩
  | exit id=>
   obtain⟨f1,f2⟩:=fin (some (.exit id)) s2 E2 a2 w2 yP jv mN
   exact⟨_,_,f1,_,rfl,_,_,E2,by show K0 ⟨aV s.t dst (.val (.bool false)),aK s.H (kZ _ 0)⟩;rw[sQ (by simp[bI,jv])];exact hK,by rw[ah];rfl,f2⟩
  | ret=>
   obtain⟨f1,f2⟩:=fin (some .ret) s2 E2 a2 w2 yP jv mN
   exact⟨_,_,f1,_,rfl,_,_,E2,by show K0 ⟨aV s.t dst (.val (.bool false)),aK s.H (kZ _ 0)⟩;rw[sQ (by simp[bI,jv])];exact hK,by rw[ah];rfl,f2⟩
/-! a range -/
def JB(tb:TypeId→Option TI)(rs:List ResultVar)(rw v:Nat)(i:pM)(t:List AV)(Q:Ex→St→Prop)(e:Ex)(s2:St):Prop:=
 sj tb rs (fun _ _=>True) e s2∧∃st,aT s2.H rw=some ⟨v,.lp i t st⟩∧match st with
  | none=>Q .normal ⟨t,aH s2.H rw ⟨v,.dead⟩⟩
  | some (.exit id)=>Q (.exit id) ⟨t,aH s2.H rw ⟨v,.dead⟩⟩
  | some .ret=>Q .ret ⟨t,aH s2.H rw ⟨v,.dead⟩⟩
  | _=>False
theorem HR.more{E:Env}{w:World}{H:List U}(hr:HR E w H)(m:Nat):HR E w (H++cx m):=by
 have aL:∀(r:Nat)(e:U),(H++cx m)[r]? =some e→H[r]? =some e∨(H.length≤r∧e=⟨0,.dead⟩):=by
  intro r e he
  rw[List.getElem?_append] at he
  split at he
  ·exact .inl he
  ·exact .inr ⟨by omega,qo he⟩
 refine⟨fun r e he=> ?_,fun r e he hl=> ?_,fun r e he ha=> ?_,fun r r' e e' b he jM hl bu=> ?_,hr.cJ,fun r e b he hl=> ?_,fun r h=>hr.top r (by rw[List.length_append] at h;omega),hr.gl,fun r v ls he=> ?_⟩
 ·rcases aL r e he with h1 | ⟨h1,rfl⟩
  ·exact hr.ver r e h1
  ·exact(hr.top r h1).1
 ·rcases aL r e he with h1 | ⟨h1,rfl⟩
  ·exact hr.bM r e h1 hl
  ·cases hl.1
 ·rcases aL r e he with h1 | ⟨h1,rfl⟩
  ·exact hr.abs r e h1 ha
  ·rfl
 ·rcases aL r e he with h1 | ⟨h1,rfl⟩
  ·rcases aL r' e' jM with h2 | ⟨h2,rfl⟩
   ·exact hr.inj r r' e e' b h1 h2 hl bu
   ·exact absurd bu aE.dead
  ·exact absurd hl aE.dead
 ·rcases aL r e he with h1 | ⟨h1,rfl⟩
  ·exact hr.dj r e b h1 hl
  ·exact absurd hl aE.dead
 ·rcases aL r _ he with h1 | ⟨h1,h2⟩
  ·exact hr.aB r v ls h1
  ·cases h2
theorem Di{H:List U}{m r b:Nat}{e:U}{E:Env}(h:(H++cx m)[r]? =some e)(hl:aE E r e b):H[r]? =some e:=by
 rw[List.getElem?_append] at h
 split at h
 ·exact h
 ·have:=qo h;subst this;exact absurd hl aE.dead
def Env.JC(E:Env)(D:Nat):Env:={E with aD:=fun z b=>E.aD z b∨(z=0∧b=D)}
theorem JD {tb : TypeId → Option TI} (aA : cj P tb) {p' : Nat} {g : Operand} {ps : Array Tmp} {fX body : Code} {Q : Ex → St → Prop} {s : St} {f : FuncId} {caps : List AV} {fn : Func} {c : Code} {nt m : Nat} {rs : List ResultVar} (rw v : Nat)
    (hg:aZ s.t g= .clo f caps) (iS:dC s.t g) (hf:P.funcs[f]? =some fn) (hb:fn.body=some c) (hn:fn.ntmps=nt) (kR:fn.results=rs.toArray) (eK:∀(fS:Array Value)(w:World),(callFunc f fS).run P w= .ok (.enter f fS) w) (sk:ec c=true)
    (uZ:aT (s.H++cx m) rw=some ⟨v,.dead⟩)
    (h:∀i:pM,i.ps=ps→i.fX=fX→i.body=body→fm tb P p' c (JB tb rs rw (v+1) i s.t Q) ⟨.fI rw (v+1)::caps++cN (nt - (caps.length+1)),aH (s.H++cx m) rw ⟨v+1,.lp i s.t none⟩⟩):
    uy P g ps fX body Q s:=by
 rw[bS] at uZ
 unfold uy
 intro w0 keep E a w JE hR n
 have vf:=hR.gu iS
 rw[hg,ah] at vf
 obtain⟨cs,vf,cq⟩:=vf
 refine wpIn_rangeFunc (F:=FR none) ?_
 intro Dj _
 -- the blocks that are laid
 obtain⟨D,hD⟩:∃D,D=w.heap.size:=⟨_,rfl⟩
 obtain⟨l,hl⟩:∃l,l=w.heap.size+1:=⟨_,rfl⟩
 obtain⟨R,mO⟩:∃R:Loop,R={state:= .ready,pending:=none,fn:=Dj,tmps:=a.tmps,params:=ps,assign:=fX,body,defers:=w.heap.size}:=⟨_,rfl⟩
 obtain⟨wD,o6⟩:∃wD,wD=w.alloc (.deferred (some [])):=⟨_,rfl⟩
 obtain⟨W1,o7⟩:∃W1,W1=wD.alloc (.loop R):=⟨_,rfl⟩
 have JF:wD.heap.size=w.heap.size+1:=by rw[o6,World.size_alloc]
 have JG:wD.heap[D]? =some (.deferred (some [])):=by rw[o6,hD];exact World.alloc_heap_new w _
 have qH:∀k,k<w.heap.size→wD.heap[k]? =w.heap[k]?:=fun k hk=>by rw[o6];exact Below.heap_alloc _ _ _ hk
 have BD:∀k,k<wD.heap.size→W1.heap[k]? =wD.heap[k]?:=fun k hk=>by rw[o7];exact Below.heap_alloc _ _ _ hk
 have JH:W1.heap[l]? =some (.loop R):=by rw[o7,hl,←JF];exact World.alloc_heap_new wD _
 obtain⟨Ds,JI,JJ,yQ⟩:=hR.defers.2
 have Dk:=run_enterLoop_outer (P:=P) (w:=w) Dj a.tmps ps fX body
 rw[←o6,←mO,←o7] at Dk
 refine⟨_,_,_,{target:= .fn (.func f) cs.toArray,args:= #[.func (.yield (w.heap.size+1)) #[] #[]]},W1,f,#[.func (.yield (w.heap.size+1)) #[] #[]]++cs.toArray,W1,Dk,?_,fun _ _=>trivial,?_,fun q=>(by cases q),?_⟩
 ·simp only[resolve,vf]
  simp[go_sem]
 ·simp[invoke,go_sem,eK]
 -- the environment with the two blocks
 obtain⟨ED,kD⟩:∃ED,ED=E.JC D:=⟨_,rfl⟩
 have XD:Ext E ED w wD:=by
  rw[kD]
  refine⟨fun _=>Nat.le_refl _,fun _ _=>rfl,fun _ _=>Iff.rfl,fun _ _ h=> .inl h,fun z b hz=>qH b (hR.hr.cJ z b hz),fun r cur T fz hc=>⟨cur,T,fz,by rw[qH _ (Array.getElem?_eq_some_iff.1 hc).1];exact hc,Nat.le_refl _⟩,fun _ _ _ _ h=>h⟩
 have vg:∀(r:Nat)(e:U)(b:Nat),aE ED r e b→aE E r e b:=fun r e b h=>by rw[kD] at h;exact h
 have JK:HR ED wD s.H:=by
  refine⟨fun r e h=>by rw[kD];exact hR.hr.ver r e h,fun r e h hl=> ?_,fun r e h ha=>hR.hr.abs r e h (by rw[kD] at ha;exact ha),fun r r' e e' b h h' hl bu=>hR.hr.inj r r' e e' b h h' (vg r e b hl) (vg r' e' b bu),fun z b hz=> ?_,fun r e b h hl z hz=> ?_,fun r h=>by rw[kD];exact hR.hr.top r h,hR.hr.gl.ext XD,fun r v ls h=> ?_⟩
  ·have bu:bH E r e:=by rw[kD] at hl;exact hl
   have e1:ED.ρ r=E.ρ r:=by rw[kD];rfl
   rw[e1]
   exact(hR.hr.bM r e h bu).ext XD (qH _ (hR.hr.lt h bu))
  ·rw[kD] at hz
   rcases hz with hz | ⟨_,rfl⟩
   ·have:=hR.hr.cJ z b hz;omega
   ·omega
  ·have bu:=vg r e b hl
   rw[kD] at hz
   have:=hR.hr.blt h bu
   rcases hz with hz | ⟨_,hb⟩
   ·exact hR.hr.dj r e b h bu z hz
   ·omega
  ·have e1:ED.pl r=E.pl r:=by rw[kD];rfl
   rw[e1]
   exact(hR.hr.aB r v ls h).lx fun i b hb=>qH b ((hR.hr.aB r v ls h).lt hb)
 have OD:Out E ED w wD s.H []:=by
  refine⟨XD,JK,by rw[o6];rfl,by rw[o6];rfl,by rw[o6];rfl,by omega,fun z b hz=> ?_,fun k cur T fz hc=>⟨cur,T,fz,by rw[qH _ (Array.getElem?_eq_some_iff.1 hc).1];exact hc,Nat.le_refl _⟩,fun k hk _=>qH k hk,fun r e b h hl=> .inr ⟨r,e,h,vg r e b hl,.inl rfl⟩⟩
  rw[kD] at hz
  rcases hz with hz | ⟨_,rfl⟩
  ·exact .inl hz
  ·right;omega
 have iB:Rel w0 keep ED s a wD:=by
  have:=hR.put (dst:=none) (x:= .any) (v:=undef) OD (by rw[ah];trivial)
  exact this
 have Dl:Rel w0 keep ED ⟨s.t,s.H++cx m⟩ a wD:=
  ⟨iB.len,iB.tmps,iB.defers,iB.hr.more m,⟨iB.fr.os,iB.fr.tape,iB.fr.output,iB.fr.size,iB.fr.block,iB.fr.grow,fun r e b h hl=>iB.fr.rows r e b (Di h hl) hl⟩,iB.ext,iB.aD,fun r e b h hl=>iB.rows r e b (Di h hl) hl⟩
 obtain⟨i,hi⟩:∃i:pM,i=⟨l,a.tmps,D::Ds,ps,fX,body⟩:=⟨_,rfl⟩
 have O1:Out ED (ED.set rw l (v+1)) wD W1 (s.H++cx m) [(rw,⟨v+1,.lp i s.t none⟩)]:=by
  refine Out.one Dl.hr uZ rfl (.inr (by simp)) (.inr (by omega)) (by rw[o7];rfl) (by rw[o7];rfl) (by rw[o7];rfl) (by rw[o7,World.size_alloc];omega) (fun k hk _=>BD k hk) (fun cur T fz hc=> ?_) (fun X=>⟨fun q=>(by cases q),fun i' B8 B9 e=> ?_⟩)
  ·have:=(Array.getElem?_eq_some_iff.1 hc).1;omega
  ·simp only[Bd.lp.injEq] at e
   obtain⟨rfl,rfl,rfl⟩:=e
   refine⟨by rw[hi],R,JH,by rw[mO,hi],by rw[mO,hi],by rw[mO,hi],by rw[mO],by rw[mO];rfl,by rw[mO,hi],?_,fun D' iC=> ?_⟩
   ·have ht:TR ED wD s.t a.tmps:=⟨iB.len,iB.tmps⟩
    rw[hi]
    exact fw X _ _ ht.Jr
   ·rw[hi] at iC
    have key:(∃z,ED.aD z D')∧wD.heap[D']? =some (.deferred (some [])):=by
     rcases List.mem_cons.1 iC with rfl | iC
     ·exact⟨⟨0,by rw[kD];exact .inr ⟨rfl,rfl⟩⟩,JG⟩
     ·obtain⟨_,⟨z,hz⟩,hh⟩:=yQ D' iC
      exact⟨⟨z,XD.aD z D' hz⟩,(XD.cell z D' hz).trans hh⟩
    obtain⟨⟨z,hz⟩,hh⟩:=key
    exact⟨⟨z,X.aD z D' hz⟩,(X.cell z D' hz).trans hh⟩
 obtain⟨E1,r6⟩:∃E1,E1=ED.set rw l (v+1):=⟨_,rfl⟩
 rw[←r6] at O1
 have nQ:=Dl.put (dst:=none) (x:= .any) (v:=undef) O1 (by rw[ah];trivial)
 have jP:a.put none undef=a:=rfl
 rw[jP] at nQ
 simp only[aV,aK] at nQ
 have X1:Ext E E1 w W1:=XD.trans O1.ext
 have cr:aw E1 W1 (.fI rw (v+1)::caps) (.func (.yield l) #[] #[]::cs):=by
  rw[Go.Proofs.YtpbpiehcchannaaGreatDoor.aw]
  refine⟨_,_,rfl,?_,fw X1 _ _ cq⟩
  rw[ah]
  refine⟨by rw[r6,Env.jE];exact Nat.le_refl _,fun _=>by rw[r6,Env.ke]⟩
 have dL:=uA hn nQ.hr cr 0 True
 have JL:Rel w0 {keep with pure:=True} E1 ⟨.fI rw (v+1)::caps++cN (nt - (caps.length+1)),aH (s.H++cx m) rw ⟨v+1,.lp i s.t none⟩⟩ {tmps:=(.func (.yield l) #[] #[]::cs).toArray++Array.replicate (fn.ntmps - (.func (.yield l) #[] #[]::cs).toArray.size) undef,defers:=[]} W1:=
  ⟨dL.len,dL.tmps,⟨fun _=>rfl,Marks.nil _ _ _⟩,nQ.hr,nQ.fr,nQ.ext,nQ.aD,nQ.rows⟩
 have JM: #[.func (.yield (w.heap.size+1)) #[] #[]]++cs.toArray=(Value.func (.yield l) #[] #[]::cs).toArray:=by
  rw[hl]
  apply Array.ext'
  simp
 rw[JM]
 refine(callsIn_wide (n:=n - 1)).2 (calls_of_wp hf hb (wp_mono (xU (keep:={keep with pure:=True}) aA (h i (by rw[hi]) (by rw[hi]) (by rw[hi])) (fun _=>sk) JL) ?_))
 rintro e a' w3 ⟨ex,s2,E3,rfl,fW,JN,st,o8,vh⟩
 obtain⟨hex,vv,x,k1,k2,_⟩:=uz aA kR JN fW
 have Dm:=fW.defers.1 trivial
 rw[bS] at o8
 have bo:¬E3.abs rw:=fun q=>by have:=fW.hr.abs rw _ o8 q;simp[Bd.count] at this
 have yR:bH E3 rw ⟨v+1,.lp i s.t st⟩:=⟨rfl,bo⟩
 obtain⟨yS,R3,g1,g2,g3,g4,g5,g6,g7,g8,g9⟩:=(fW.hr.bM rw _ o8 yR).lp _ _ _ rfl
 have yT:i.l=l:=by rw[hi]
 rw[yS,yT] at g1
 have iA:=run_endLoop (P:=P) g1 (by rw[g6];split<;>simp)
 obtain⟨w4,k6⟩:∃w4,w4=w3.putObj l (.loop {R3 with state:= .exhausted}):=⟨_,rfl⟩
 rw[←k6,g5] at iA
 have gL:w0.heap.size≤w.heap.size:=hR.fr.size
 have sS:∀(k:Nat) cur T fz,w3.heap[k]? =some (.cells cur T fz)→k≠l:=by
  rintro k cur T fz hc rfl
  rw[g1] at hc;cases hc
 have sR:∀z,¬E3.aD z l:=fun z=>by rw[←yT,←yS];exact fW.hr.tM rw _ o8 yR z
 have JO:aE E3 rw ⟨v+1,.lp i s.t st⟩ l:=by rw[←yT,←yS];exact aE.of yR
 have kB:∀(q:Nat)(e:U),(aH s2.H rw ⟨v+1,.dead⟩)[q]? =some e→(∃b,aE E3 q e b)→q≠rw∧s2.H[q]? =some e:=by
  intro q e he hle
  rw[bI,List.getElem?_set] at he
  by_cases qq:rw=q
  ·subst qq
   rw[if_pos rfl,if_pos (List.getElem?_eq_some_iff.1 o8).1] at he
   cases he
   obtain⟨b,hb⟩:=hle
   exact absurd hb aE.dead
  ·rw[if_neg qq] at he
   exact⟨fun h=>qq h.symm,he⟩
 have pk:o3 E3 w3 (aH s2.H rw ⟨v+1,.dead⟩) l:=by
  refine⟨fun cur T fz q=>(by rw[g1] at q;cases q),sR,fun q e he hle=> ?_⟩
  obtain⟨n1,n2⟩:=kB q e he ⟨l,hle⟩
  exact n1 (fW.hr.inj q rw e _ l n2 o8 hle JO)
 have yU:Rel w0 keep E3 ⟨s.t,aH s2.H rw ⟨v+1,.dead⟩⟩ {a with defers:=mark D::a.defers} w4:=by
  have JP:i.tv=a.tmps:=by rw[hi]
  rw[JP] at g8
  have ht:=TR.De g8
  have X3:=pk.ext (.loop {R3 with state:= .exhausted})
  rw[←k6] at X3
  have JQ:=fW.hr.kill o8
  refine⟨ht.1,fun q y hy=>eF X3 _ _ (ht.2 q y hy),⟨fun q=>absurd q JE,D::Ds,by simp[JI],List.nodup_cons.2 ⟨fun hm=> ?_,JJ⟩,fun D' iC=> ?_⟩,by rw[k6];exact pk.hr _ JQ,⟨?_,?_,?_,?_,fun k hk cC=> ?_,fun k cur T fz hc=> ?_,fun q e b he hle ai=> ?_⟩,?_,fW.aD,fun q e b he hle=>fW.rows q e b (kB q e he ⟨b,hle⟩).2 hle⟩
  ·have:=(Array.getElem?_eq_some_iff.1 (yQ D hm).2.2).1;omega
  ·obtain⟨⟨z,hz⟩,hh⟩:=g9 D' (by rw[hi];exact iC)
   refine⟨?_,⟨z,hz⟩,(X3.cell z D' hz).trans hh⟩
   rcases List.mem_cons.1 iC with rfl | iC
   ·omega
   ·exact(yQ D' iC).1
  ·rw[k6];exact fW.fr.os
  ·rw[k6];exact fW.fr.tape
  ·rw[k6];exact fW.fr.output
  ·rw[k6,World.putObj_size];exact fW.fr.size
  ·rw[k6,World.putObj_heap_other (by omega)];exact fW.fr.block k hk cC
  ·obtain⟨cR,T',dX,m1,m2⟩:=fW.fr.grow k cur T fz hc
   exact⟨cR,T',dX,by rw[k6,World.putObj_heap_other (sS _ _ _ _ m1)];exact m1,m2⟩
  ·exact fW.fr.rows q e b (kB q e he ⟨b,hle⟩).2 hle ai
  ·have X:=fW.ext
   refine⟨X.ver,X.di,X.abs,X.aD,fun z b hz=> ?_,fun k cur T fz hc=> ?_,X.pl⟩
   ·have hb:b≠l:=fun q=>sR z (q▸X.aD z b hz)
    rw[k6,World.putObj_heap_other hb]
    exact X.cell z b hz
   ·obtain⟨cR,T',dX,m1,m2⟩:=X.grow k cur T fz hc
    exact⟨cR,T',dX,by rw[k6,World.putObj_heap_other (sS _ _ _ _ m1)];exact m1,m2⟩
 have final:rangePost (FR none) n P l (sf w0 keep Q) {a with defers:=mark D::a.defers} (.returned vv) w3:=by
  refine⟨st,w4,iA,?_⟩
  cases st with
  | none=>exact⟨.normal,_,E3,rfl,yU,vh⟩
  | some c=>
   cases c<;>first | exact vh.elim | skip
   ·exact wpIn_exit ⟨.exit _,_,E3,rfl,yU,vh⟩
   ·exact wpIn_ret ⟨.ret,_,E3,rfl,yU,vh⟩
 rw[hl,hD] at final
 rcases hex with rfl | rfl
 ·exact⟨Dm,vv,k1,final⟩
 ·exact⟨Dm,vv,k1,final⟩
/-! the end of a function that has ranged over others -/
mutual
def ik:AV→Prop
 | .agg l=>eM l
 | .al l=>eM l
 | .sl z sz f d l=>0<sz∧∀a,eM (f a)
 | .cp z cells j=>cells≠[]∧eM cells
 | .clo f caps=>eM caps
 | .gd φ x=>ik x
 | .any=>True
 | .val _=>True
 | .bs .. =>True
 | .own .. =>True
 | .ref .. =>True
 | .fI .. =>True
 | .pl .. =>True
 | .gU .. =>True
def eM:List AV→Prop
 | []=>True
 | x::xs=>ik x∧eM xs
end
def qI:Bd→Prop
 | .dead=>True
 | .bytes _=>True
 | .row sz f d l=>∀a,eM (f a)
 | .obj l=>eM l
 | .lp .. =>False
 | .aB _=>True
def nR:List U→Prop
 | []=>True
 | e::es=>qI e.bd∧nR es
theorem Dn:∀{H:List U}{r:Nat}{e:U},nR H→H[r]? =some e→qI e.bd
 | x::H,0,e,h,he=>by simp at he;subst he;exact h.1
 | x::H,r+1,e,h,he=>Dn (H:=H) h.2 (by simpa using he)
theorem JR{bd:Bd}(h:qI bd){i:Nat}{ys:List AV}(hy:bd.at i=some ys):eM ys:=by
 cases bd with
 | dead=>simp[Bd.at] at hy
 | bytes l=>
  simp only[Bd.at,Option.map_eq_some_iff] at hy
  obtain⟨b,_,rfl⟩:=hy
  simp[eM,ik]
 | row sz f d l=>
  simp only[Bd.at,Option.map_eq_some_iff] at hy
  obtain⟨b,_,rfl⟩:=hy
  exact h b
 | obj l=>
  simp only[Bd.at] at hy
  split at hy
  ·cases hy;exact h
  ·cases hy
 | lp=>simp[Bd.at] at hy
 | aB=>simp[Bd.at] at hy
def Env.cut(E:Env)(D:Nat):Env:={E with aD:=fun z b=>E.aD z b∧b≠D}
section
variable {E:Env} {w:World} {D:Nat} {o:Obj}
theorem sU(hD:∀cur T fz,w.heap[D]? ≠some (.cells cur T fz)){b k:Nat}{v:Value}(h:w.cell? ⟨b,k,none⟩=some v):b≠D∧(w.putObj D o).cell? ⟨b,k,none⟩=some v:=by
 obtain⟨cur,T,fz,hc⟩:=Jq h
 have hb:b≠D:=fun q=>hD cur T fz (by rw[←q];exact hc)
 exact⟨hb,(World.cell_of_heap (World.putObj_heap_other hb)).trans h⟩
mutual
theorem yV(hD:∀cur T fz,w.heap[D]? ≠some (.cells cur T fz)):∀(x:AV)(v:Value),ik x→ah E w x v→ah (E.cut D) (w.putObj D o) x v
 | .any,v,_,h=>by rw[ah];trivial
 | .val u,v,_,h=>by rw[ah] at h⊢;exact h
 | .agg l,v,hn,h=>by
  rw[ah] at h⊢
  rw[ik] at hn
  obtain⟨cs,rfl,h⟩:=h
  exact⟨cs,rfl,o9 hD l cs hn h⟩
 | .al l,v,hn,h=>by
  rw[ah] at h⊢
  rw[ik] at hn
  obtain⟨cs,rfl,h⟩:=h
  exact⟨cs,rfl,o9 hD l cs hn h⟩
 | .bs z l,v,_,h=>by
  rw[ah] at h⊢
  obtain⟨a,n,c,rfl,h1,h2,h3,h4,h5⟩:=h
  refine⟨a,n,c,rfl,h1,h2,h3,h4,fun i x hx=> ?_⟩
  obtain⟨b,k,h6,h7,h8⟩:=h5 i x hx
  obtain⟨hb,hc⟩:=sU (o:=o) hD h8
  exact⟨b,k,h6,⟨h7,hb⟩,hc⟩
 | .sl z sz f d l,v,hn,h=>by
  rw[ah] at h⊢
  rw[ik] at hn
  obtain⟨a,n,c,rfl,h1,h2,h3,h4,h5⟩:=h
  refine⟨a,n,c,rfl,h1,h2,h3,h4,fun i x hx=> ?_⟩
  obtain⟨b,k,cs,h6,h7,h8,h9,jo⟩:=h5 i x hx
  have h0:=jo 0 _ (List.getElem?_eq_getElem (by omega))
  have hb:=(sU (o:=o) hD h0).1
  exact⟨b,k,cs,h6,⟨h7,hb⟩,h8,o9 hD (f x) cs (hn.2 x) h9,fun j u hu=>(sU hD (jo j u hu)).2⟩
 | .own r ver sz off n,v,_,h=>by
  rw[ah] at h⊢
  refine⟨h.1,fun e=> ?_⟩
  obtain⟨a,c,rfl,h1,h2,h3,h4⟩:=h.2 e
  refine⟨a,c,rfl,h1,h2,h3,h4.imp id fun⟨h5,h6,cur,T,fz,h7,h8⟩=>⟨h5,h6,cur,T,fz,?_,h8⟩⟩
  have hb:E.ρ r≠D:=fun q=>hD cur T fz (by rw[←q];exact h7)
  exact(World.putObj_heap_other (o:=o) hb).trans h7
 | .ref r ver sz i j,v,_,h=>by rw[ah] at h⊢;exact h
 | .cp z cells j,v,hn,h=>by
  rw[ah] at h⊢
  rw[ik] at hn
  obtain⟨b,k,cs,rfl,h7,h9,jo⟩:=h
  have hl:=(eR h9).1
  have kN:0<cs.length:=by
   rw[←hl]
   cases cells with
   | nil=>exact absurd rfl hn.1
   | cons=>simp
  have hb:=(sU (o:=o) hD (jo 0 _ (List.getElem?_eq_getElem kN))).1
  exact⟨b,k,cs,rfl,⟨h7,hb⟩,o9 hD cells cs hn.2 h9,fun j u hu=>(sU hD (jo j u hu)).2⟩
 | .clo f caps,v,hn,h=>by
  rw[ah] at h⊢
  rw[ik] at hn
  obtain⟨cs,rfl,h⟩:=h
  exact⟨cs,rfl,o9 hD caps cs hn h⟩
 | .fI r ver,v,_,h=>by rw[ah] at h⊢;exact h
 | .pl r ver i off n,v,_,h=>by
  rw[ah] at h⊢
  refine⟨h.1,fun e=> ?_⟩
  obtain⟨a,c,rfl,h1,h2,h3,h4⟩:=h.2 e
  refine⟨a,c,rfl,h1,h2,h3,h4.imp id fun⟨b,h5,h6,cur,T,fz,h7,h8⟩=>⟨b,h5,h6,cur,T,fz,?_,h8⟩⟩
  have hb:b≠D:=fun q=>hD cur T fz (by rw[←q];exact h7)
  exact(World.putObj_heap_other (o:=o) hb).trans h7
 | .gU r ver i k,v,_,h=>by rw[ah] at h⊢;exact h
 | .gd φ x,v,hn,h=>by
  rw[ah] at h⊢
  rw[ik] at hn
  exact⟨fun p=>yV hD x v hn (h.1 p),h.2⟩
theorem o9(hD:∀cur T fz,w.heap[D]? ≠some (.cells cur T fz)):∀(xs:List AV)(vs:List Value),eM xs→aw E w xs vs→aw (E.cut D) (w.putObj D o) xs vs
 | [],vs,_,h=>by rw[aw] at h⊢;exact h
 | x::xs,vs,hn,h=>by
  rw[aw] at h⊢
  rw[eM] at hn
  obtain⟨v,cQ,rfl,h1,h2⟩:=h
  exact⟨v,cQ,rfl,yV hD x v hn.1 h1,o9 hD xs cQ hn.2 h2⟩
end
end
theorem Dp:∀{t:List AV}{i:Nat}{x:AV},eM t→t[i]? =some x→ik x
 | y::t,0,x,h,hx=>by simp at hx;subst hx;rw[eM] at h;exact h.1
 | y::t,i+1,x,h,hx=>by rw[eM] at h;exact Dp (t:=t) h.2 (by simpa using hx)
theorem Rel.cut {w0 : World} {keep : Bs} {E : Env} {s : St} {a : Act} {w : World} (h : Rel w0 keep E s a w) (ht : eM s.t) (hH : nR s.H) {D : Nat} {ds : Option (List Deferred)} (hD : w.heap[D]? = some (.deferred ds)) (h0 : w0.heap.size ≤ D) (o : Obj) :
    Rel w0 keep (E.cut D) s {a with defers:=[]} (w.putObj D o):=by
 have hc:∀cur T fz,w.heap[D]? ≠some (.cells cur T fz):=fun cur T fz q=>by rw[hD] at q;cases q
 have dK:∀(r:Nat)(e:U),s.H[r]? =some e→bH E r e→E.ρ r≠D:=by
  intro r e hr hl q
  have eK:=h.hr.bM r e hr hl
  cases hb:e.bd with
  | dead=>have:=hl.1;rw[hb] at this;cases this
  | aB=>have:=hl.1;rw[hb] at this;cases this
  | lp i tR st=>
   obtain⟨_,R,h1,_⟩:=eK.lp _ _ _ hb
   rw[q,hD] at h1;cases h1
  | bytes l=>obtain⟨cur,T,lo,hi,h1,_⟩:=eK.aO (by rw[hb];rfl);rw[q] at h1;exact hc _ _ _ h1
  | row sz f d l=>obtain⟨cur,T,lo,hi,h1,_⟩:=eK.aO (by rw[hb];rfl);rw[q] at h1;exact hc _ _ _ h1
  | obj l=>obtain⟨cur,T,lo,hi,h1,_⟩:=eK.aO (by rw[hb];rfl);rw[q] at h1;exact hc _ _ _ h1
 refine⟨h.len,fun i x hx=>yV hc x _ (Dp ht hx) (h.tmps i x hx),⟨fun _=>rfl,Marks.nil _ _ _⟩,⟨h.hr.ver,fun r e hr hl=> ?_,h.hr.abs,h.hr.inj,fun z b hz=>by rw[World.putObj_size];exact h.hr.cJ z b hz.1,fun r e b hr hl z hz=>h.hr.dj r e b hr hl z hz.1,h.hr.top,fun g cs hg=> ?_,fun r v ls hr=>(h.hr.aB r v ls hr).lx fun i b hb=> ?_⟩,⟨h.fr.os,h.fr.tape,h.fr.output,by simpa using h.fr.size,fun k hk cC=> ?_,fun k cur T fz jz=> ?_,h.fr.rows⟩,⟨h.ext.ver,h.ext.di,h.ext.abs,fun z b hz=> ?_,fun z b hz=> ?_,fun k cur T fz jz=> ?_,h.ext.pl⟩,fun z b hz=>h.aD z b hz.1,h.rows⟩
 ·have hn:=Dn hH hr
  have eK:=h.hr.bM r e hr hl
  have aF:=dK r e hr hl
  refine⟨fun q=> ?_,fun i tR st q=>by rw[q] at hn;exact hn.elim⟩
  obtain⟨cur,T,lo,hi,h1,h2,h3,h4⟩:=eK.aO q
  refine⟨cur,T,lo,hi,(World.putObj_heap_other (w:=w) (o:=o) aF).trans h1,h2,h3,fun i ys hy=> ?_⟩
  obtain⟨cs,h5,h6,h7⟩:=h4 i ys hy
  exact⟨cs,h5,o9 hc _ _ (JR hn hy) h6,h7⟩
 ·have h1:=h.hr.gl g cs hg
  have hb:g≠D:=by
   intro q
   cases cs with
   | nil=>exact JS hg rfl
   | cons u cs=>
    have h2:=h1.2 0 u rfl
    rw[q,World.cell?] at h2
    simp[hD] at h2
  exact⟨⟨h1.1,hb⟩,fun j u hu=>(World.cell_of_heap (World.putObj_heap_other (w:=w) (o:=o) hb)).trans (h1.2 j u hu)⟩
 ·have hp:=h.hr.aB r v ls hr
  obtain⟨cur,T,lo,hi,h1,_⟩:=hp.aO i _ b (List.getElem?_eq_getElem (hp.top i b hb)) hb
  exact World.putObj_heap_other (fun q=>hc cur T _ (by rw[←q];exact h1))
 ·rw[World.putObj_heap_other (by omega)];exact h.fr.block k hk cC
 ·obtain⟨cR,T',dX,h1,h2⟩:=h.fr.grow k cur T fz jz
  exact⟨cR,T',dX,by rw[World.putObj_heap_other (fun q=>hc _ _ _ (by rw[←q];exact h1))];exact h1,h2⟩
 ·refine⟨h.ext.aD z b hz,fun q=> ?_⟩
  have:=h.ext.cell z b hz
  rw[q,hD] at this
  have:=(Array.getElem?_eq_some_iff.1 this.symm).1
  omega
 ·have:=h.ext.cell z b hz
  have hb:b≠D:=fun q=>by
   rw[q,hD] at this
   have:=(Array.getElem?_eq_some_iff.1 this.symm).1
   omega
  rw[World.putObj_heap_other hb];exact this
 ·obtain⟨cR,T',dX,h1,h2⟩:=h.ext.grow k cur T fz jz
  exact⟨cR,T',dX,by rw[World.putObj_heap_other (fun q=>hc _ _ _ (by rw[←q];exact h1))];exact h1,h2⟩
def shut:List Nat→World→World
 | [],w=>w
 | D::Ds,w=>shut Ds (w.putObj D (.deferred none))
theorem Dq {F : Fence} {n : Nat} {fn : Func} {tmps : Array Value} {R : Ending → World → Prop} : ∀ {Ds : List Nat} {w : World}, Ds.Nodup → (∀ D ∈ Ds, w.heap[D]? = some (.deferred (some []))) → (∃ v, (results fn tmps).run P (shut Ds w) = .ok v (shut Ds w) ∧ R (.returned v) (shut Ds w)) →
    LeavesInM F n P fn tmps R (Ds.map mark) .returning w
 | [],w,_,_,h=>h
 | D::Ds,w,bW,hD,h=>by
  obtain⟨h1,h2⟩:=List.nodup_cons.1 bW
  refine⟨by simp,.inl ⟨D,w.putObj D (.deferred none),rfl,run_takeDeferred (hD D (by simp)),Dq h2 (fun D' iC=> ?_) h⟩⟩
  rw[World.putObj_heap_other (fun q=>h1 (by rw[←q];exact iC))]
  exact hD D' (by simp[iC])
theorem Rel.Dr{w0:World}{keep:Bs}{s:St}(ht:eM s.t)(hH:nR s.H):∀{Ds:List Nat}{E:Env}{a:Act}{w:World},Rel w0 keep E s a w→Ds.Nodup→(∀D∈Ds,w0.heap.size≤D∧w.heap[D]? =some (.deferred (some [])))→∃E',Rel w0 keep E' s {a with defers:=if Ds=[] then a.defers else[]} (shut Ds w)
 | [],E,a,w,h,_,_=>⟨E,h⟩
 | D::Ds,E,a,w,h,bW,hD=>by
  obtain⟨h1,h2⟩:=List.nodup_cons.1 bW
  obtain⟨h3,h4⟩:=hD D (by simp)
  have hc:=h.cut ht hH h4 h3 (.deferred none)
  obtain⟨E',h5⟩:=Rel.Dr ht hH (Ds:=Ds) hc h2 (fun D' iC=>⟨(hD D' (by simp[iC])).1,by rw[World.putObj_heap_other (fun q=>h1 (by rw[←q];exact iC))];exact(hD D' (by simp[iC])).2⟩)
  refine⟨E',?_⟩
  have e:(if Ds=[] then([]:List Deferred) else[])=[]:=by split<;>rfl
  simp only[e] at h5
  rw[if_neg (by simp)]
  exact h5
def JT(tb:TypeId→Option TI)(rs:List ResultVar)(post:AV→List U→Prop)(e:Ex)(s:St):Prop:=∃s',gK s s'∧eM s'.t∧nR s'.H∧sj tb rs post e s'
theorem Dt {tb : TypeId → Option TI} (aA : cj P tb) {f : FuncId} {fn : Func} {c : Code} {n : Nat} {rs : List ResultVar} (hf : P.funcs[f]? = some fn) (hb : fn.body = some c) (hn : fn.ntmps = n) (kR : fn.results = rs.toArray)
    {args:List AV} {H0:List U} {post:AV→List U→Prop} (p m:Nat) (h:fm tb P p c (JT tb rs fun x H=>H0.length≤H.length∧post x H) ⟨args++cN (n - args.length),H0++cx m⟩):Spec P f args H0 post:=by
 intro w E cargs hr cr
 refine(callsIn_wide (n:=0)).1 (callsIn_of_wp_marks hf hb trivial (wpIn_mono (kQ (r:=none) (keep:=nF E H0 False) aA h (.inl rfl) (fun q=>q.elim) (uA hn hr cr m False)) ?_))
 rintro e a w' ⟨ex,s0,E0,rfl,oF,s,hle,ht,hH,hQ⟩
 obtain⟨E1,nP⟩:=hle _ _ _ _ _ oF
 obtain⟨Ds,o4,mN,yW⟩:=nP.defers.2
 obtain⟨E',hR⟩:=Rel.Dr ht hH nP mN (fun D hD=>⟨(yW D hD).1,(yW D hD).2.2⟩)
 obtain⟨hex,v,x,h1,h2,h3⟩:=uz aA kR hQ hR
 have key:LeavesInM (FR none) 0 P fn a.tmps (fun e w'=>∃v x H E',e= .returned v∧post x H∧ah E' w' x v∧HR E' w' H∧Ext E E' w w'∧(∀z b,E'.aD z b→E.aD z b∨w.heap.size≤b∨Hb E H0 b)∧H0.length≤H.length∧(∀(r:Nat)(e:U)(b:Nat),H[r]? =some e→aE E' r e b→w.heap.size≤b∨∃(r0:Nat)(e0:U),H0[r0]? =some e0∧aE E r0 e0 b)∧Fr w (fun k=>∀(r:Nat)(e:U),H0[r]? =some e→¬aE E r e k) E' H w') a.defers .returning w':=by
  rw[o4]
  exact Dq mN (fun D hD=>(yW D hD).2.2) ⟨v,h1,v,x,s.H,E',rfl,h3.2,h2,hR.hr,hR.ext,hR.aD,h3.1,hR.rows,hR.fr⟩
 rcases hex with rfl | rfl
 ·exact key
 ·exact key
end
end Go.Proofs.YtpbpiehcchannaaGreatDoor
