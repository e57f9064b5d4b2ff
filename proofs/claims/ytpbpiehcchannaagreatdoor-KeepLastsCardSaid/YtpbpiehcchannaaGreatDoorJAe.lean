/- Abstract values: ranges over functions. Conditions: the premises of each law. -/
import Derived.Test.YtpbpiehcchannaaGreatDoorJAc
import Derived.RangeFuncRecord
namespace Go.Proofs.YtpbpiehcchannaaGreatDoor
set_option linter.unusedVariables false
set_option linter.unusedSimpArgs false
open Go.RowKit
section
variable {P:Program}
def mv:List J→Nat→List (Nat×J)
 | [],_=>[]
 | e::es,n=>(n,e)::mv es (n+1)
theorem Gm:∀(C A B:List J),B.length=C.length→aM (A++B) (mv C A.length)=A++C
 | [],A,[],_=>by simp[mv,aM]
 | c::C,A,b::B,h=>by
  simp only[mv,aM,bK]
  have e:(A++b::B).set A.length c=(A++[c])++B:=by simp
  have e2:A.length+1=(A++[c]).length:=by simp
  rw[e,e2,Gm C (A++[c]) B (by simpa using h)]
  simp
theorem uY{H H2:List J}(h:H2.length=H.length):aM H (mv H2 0)=H2:=by simpa using Gm H2 [] H h.symm
theorem BA:∀(C:List J)(n r:Nat),n≤r→r<n+C.length→r∈(mv C n).map (·.1)
 | [],n,r,h1,h2=>by simp at h2;omega
 | c::C,n,r,h1,h2=>by
  simp only[mv,List.map_cons,List.mem_cons]
  by_cases q:r=n
  ·exact .inl q
  ·exact .inr (BA C (n+1) r (by omega) (by simp at h2;omega))
theorem MJ{w:World}{b o:Nat}{v:Value}(h:w.cell? ⟨b,o,none⟩=some v):∃cur T fz,w.heap[b]? =some (.cells cur T fz):=by
 unfold World.cell? at h
 simp only at h
 split at h
 ·rename_i cur T fz hb;exact⟨cur,T,fz,hb⟩
 ·cases h
structure qC(E:Env)(w:World)(H:List J)(l:Nat):Prop where
 cell:∀cur T fz,w.heap[l]? ≠some (.cells cur T fz)
 aC:∀z,¬E.aC z l
 row:∀(r:Nat)(e:J),H[r]? =some e→¬aB E r e l
theorem qC.ext{E:Env}{w:World}{H:List J}{l:Nat}(h:qC E w H l)(o:Obj):Ext E E w (w.putObj l o):=
 ⟨fun _=>Nat.le_refl _,fun _ _=>rfl,fun _ _=>Iff.rfl,fun _ _ h=>h,fun z b hz=>World.putObj_heap_other (fun q=>h.aC z (q▸hz)),fun r cur T fz hc=>⟨cur,T,fz,by rw[World.putObj_heap_other (fun q=>h.cell cur T fz (by rw[←q];exact hc))];exact hc,Nat.le_refl _⟩,fun _ _ _ _ h=>h⟩
theorem qC.hr{E:Env}{w:World}{H:List J}{l:Nat}(h:qC E w H l)(o:Obj)(hr:HR E w H):HR E (w.putObj l o) H:=
 ⟨hr.ver,fun r e nr hl=>(hr.bS r e nr hl).ext (h.ext o) (World.putObj_heap_other (fun q=>h.row r e nr (q▸aB.of hl))),hr.abs,hr.inj,fun z b hz=>by rw[World.putObj_size];exact hr.cX z b hz,hr.dC,hr.top,hr.gl.ext (h.ext o),fun r v ls bf=>(hr.az r v ls bf).mL fun i b hb=>World.putObj_heap_other (fun q=>h.row r _ bf (.inr ⟨rfl,i,q▸hb⟩))⟩
theorem HR.kill{E:Env}{w:World}{H:List J}(hr:HR E w H){r0:Nat}{e0:J}(h0:H[r0]? =some e0):HR E w (aJ H r0 ⟨e0.ver,.dead⟩):=by
 have aI:∀(r:Nat)(e:J),(aJ H r0 ⟨e0.ver,.dead⟩)[r]? =some e→r=r0∧e=⟨e0.ver,.dead⟩∨r≠r0∧H[r]? =some e:=by
  intro r e h
  rw[bK,List.getElem?_set] at h
  by_cases q:r0=r
  ·subst q
   rw[if_pos rfl,if_pos (List.getElem?_eq_some_iff.1 h0).1] at h
   exact .inl ⟨rfl,(Option.some.inj h).symm⟩
  ·rw[if_neg q] at h
   exact .inr ⟨fun h=>q h.symm,h⟩
 have b9:∀(r:Nat)(e:J),(aJ H r0 ⟨e0.ver,.dead⟩)[r]? =some e→bN E r e→r≠r0∧H[r]? =some e:=by
  intro r e h hl
  rcases aI r e h with⟨rfl,rfl⟩ | h
  ·cases hl.1
  ·exact h
 have hblk:∀(r:Nat)(e:J)(b:Nat),(aJ H r0 ⟨e0.ver,.dead⟩)[r]? =some e→aB E r e b→r≠r0∧H[r]? =some e:=by
  intro r e b h hl
  rcases aI r e h with⟨rfl,rfl⟩ | h
  ·exact absurd hl aB.dead
  ·exact h
 refine⟨fun r e h=> ?_,fun r e h hl=>hr.bS r e (b9 r e h hl).2 hl,fun r e h ha=> ?_,fun r r' e e' b h h' hl bA=>hr.inj r r' e e' b (hblk r e b h hl).2 (hblk r' e' b h' bA).2 hl bA,hr.cX,fun r e b h hl=>hr.dC r e b (hblk r e b h hl).2 hl,fun r h=>hr.top r (by rwa [bK,List.length_set] at h),hr.gl,fun r v ls h=> ?_⟩
 ·rcases aI r e h with⟨rfl,rfl⟩ | ⟨_,h⟩
  ·exact hr.ver r e0 h0
  ·exact hr.ver r e h
 ·rcases aI r e h with⟨rfl,rfl⟩ | ⟨_,h⟩
  ·rfl
  ·exact hr.abs r e h ha
 ·rcases aI r _ h with⟨_,h1⟩ | ⟨_,h⟩
  ·cases h1
  ·exact hr.az r v ls h
theorem HR.raise{E:Env}{w:World}{H:List J}(hr:HR E w H){r0 v:Nat}(h0:H[r0]? =some ⟨v,.dead⟩){bd':Bd}(hP:bd'.gY=false)(bS:fm E w (E.ρ r0) bd')(fresh:∀(r:Nat)(e:J),H[r]? =some e→¬aB E r e (E.ρ r0))(hz:∀z,¬E.aC z (E.ρ r0))(uZ:¬E.abs r0):HR E w (aJ H r0 ⟨v,bd'⟩):=by
 have aI:∀(r:Nat)(e:J),(aJ H r0 ⟨v,bd'⟩)[r]? =some e→r=r0∧e=⟨v,bd'⟩∨r≠r0∧H[r]? =some e:=by
  intro r e h
  rw[bK,List.getElem?_set] at h
  by_cases q:r0=r
  ·subst q
   rw[if_pos rfl,if_pos (List.getElem?_eq_some_iff.1 h0).1] at h
   exact .inl ⟨rfl,(Option.some.inj h).symm⟩
  ·rw[if_neg q] at h
   exact .inr ⟨fun h=>q h.symm,h⟩
 have own:∀{b:Nat},aB E r0 ⟨v,bd'⟩ b→E.ρ r0=b:=by
  rintro b (⟨_,h⟩ | ⟨h,_⟩)
  ·exact h
  ·rw[hP] at h;cases h
 refine⟨fun r e h=> ?_,fun r e h hl=> ?_,fun r e h ha=> ?_,fun r r' e e' b h h' hl bA=> ?_,hr.cX,fun r e b h hl=> ?_,fun r h=>hr.top r (by rwa [bK,List.length_set] at h),hr.gl,fun r v ls h=> ?_⟩
 ·rcases aI r e h with⟨rfl,rfl⟩ | ⟨_,h⟩
  ·exact(hr.ver r _ h0:E.ver r=v)
  ·exact hr.ver r e h
 ·rcases aI r e h with⟨rfl,rfl⟩ | ⟨_,h⟩
  ·exact bS
  ·exact hr.bS r e h hl
 ·rcases aI r e h with⟨rfl,rfl⟩ | ⟨_,h⟩
  ·exact absurd ha uZ
  ·exact hr.abs r e h ha
 ·rcases aI r e h with⟨rfl,rfl⟩ | ⟨n1,h1⟩
  ·rcases aI r' e' h' with⟨rfl,rfl⟩ | ⟨n2,h2⟩
   ·rfl
   ·exact absurd bA (own hl▸fresh r' e' h2)
  ·rcases aI r' e' h' with⟨rfl,rfl⟩ | ⟨n2,h2⟩
   ·exact absurd hl (own bA▸fresh r e h1)
   ·exact hr.inj r r' e e' b h1 h2 hl bA
 ·rcases aI r e h with⟨rfl,rfl⟩ | ⟨_,h⟩
  ·exact own hl▸hz
  ·exact hr.dC r e b h hl
 ·rcases aI r _ h with⟨_,h1⟩ | ⟨_,h⟩
  ·cases h1;cases hP
  ·exact hr.az r _ ls h
def TR(E:Env)(w:World)(t:List AV)(vs:Array Value):Prop:=t.length=vs.size∧∀(i:Nat)(x:AV),t[i]? =some x→ae E w x (vs.getD i undef)
theorem TR.Gn{E:Env}{w:World}{t:List AV}{vs:Array Value}(h:aq E w t vs.toList):TR E w t vs:=by
 obtain⟨h1,h2⟩:=eX h
 refine⟨by simpa using h1,fun i x hx=> ?_⟩
 obtain⟨v,hv,hr⟩:=h2 i x hx
 have:vs.getD i undef=v:=by
  rw[Array.getD_eq_getD_getElem?]
  have:vs[i]? =some v:=by simpa using hv
  rw[this];rfl
 rw[this];exact hr
theorem TR.MK{E:Env}{w:World}{t:List AV}{vs:Array Value}(h:TR E w t vs):aq E w t vs.toList:=
 tu (by simpa using h.1) (fun i x v hx hv=>by
  have:=h.2 i x hx
  have sC:vs[i]? =some v:=by simpa using hv
  rw[Array.getD_eq_getD_getElem?,sC] at this
  exact this)
def lK:List AV→List Tmp→List AV→List AV
 | t,p::ps,x::xs=>lK (aJ t p x) ps xs
 | t,_,_=>t
theorem TR.put{E:Env}{w:World}:∀{ps:List Tmp}{args:List AV}{cargs:List Value}{t:List AV}{vs:Array Value},TR E w t vs→aq E w args cargs→TR E w (lK t ps args) ((ps.zip cargs).foldl (fun tmps x=>tmps.setIfInBounds x.1 x.2) vs)
 | [],args,cargs,t,vs,h,ha=>by simpa [lK] using h
 | p::ps,[],cargs,t,vs,h,ha=>by
  simp only[Go.Proofs.YtpbpiehcchannaaGreatDoor.aq] at ha
  subst ha
  simpa [lK] using h
 | p::ps,x::xs,cargs,t,vs,h,ha=>by
  simp only[Go.Proofs.YtpbpiehcchannaaGreatDoor.aq] at ha
  obtain⟨v,dm,rfl,h1,h2⟩:=ha
  simp only[lK,List.zip_cons_cons,List.foldl_cons]
  refine TR.put ?_ h2
  refine⟨by simp[bK,h.1],fun i y hy=> ?_⟩
  rw[bK,List.getElem?_set] at hy
  by_cases q:p=i
  ·subst q
   rw[if_pos rfl] at hy
   split at hy
   ·rename_i ah
    cases hy
    have hp:p<vs.size:=by rw[←h.1];exact ah
    rw[Array.getD_eq_getD_getElem?,Array.getElem?_setIfInBounds_self_of_lt hp]
    exact h1
   ·cases hy
  ·rw[if_neg q] at hy
   rw[Array.getD_eq_getD_getElem?,Array.getElem?_setIfInBounds_ne q,←Array.getD_eq_getD_getElem?]
   exact h.2 i y hy
def ML(K:St→Prop)(e:Ex)(s:St):Prop:=match e with
 | .normal=>K s
 | _=>False
def MN(rw ver:Nat)(i:rB)(tR:List AV)(s:St)(dst:Option Tmp)(K0:St→Prop)(e:Ex)(s2:St):Prop:=
 s2.H.length=s.H.length∧bb s2.H rw=some ⟨ver,.dead⟩∧match e with
 | .normal=>K0 ⟨bc s.t dst (.val (.bool true)),aJ s2.H rw ⟨ver,.lp i tR none⟩⟩
 | .exit id=>K0 ⟨bc s.t dst (.val (.bool false)),aJ s2.H rw ⟨ver,.lp i tR (some (.exit id))⟩⟩
 | .ret=>K0 ⟨bc s.t dst (.val (.bool false)),aJ s2.H rw ⟨ver,.lp i tR (some .ret)⟩⟩
theorem Rel.MO {w0 : World} {keep : Bs} {E : Env} {s : St} {a : Act} {w : World} (h : Rel w0 keep E s a w) {l : Nat} (o : Obj) (ho : ∀ cur T fz, o ≠ .cells cur T fz) (hp : qC E w s.H l) (hd : a.defers = []) :
    Rel (w0.putObj l o) keep E s a (w.putObj l o):=by
 have X:=hp.ext o
 have aG:∀(k:Nat) cur T fz,(w0.putObj l o).heap[k]? =some (.cells cur T fz)→k≠l:=by
  rintro k cur T fz hc rfl
  by_cases ah:k<w0.heap.size
  ·rw[World.putObj_heap_same ah] at hc
   exact ho _ _ _ (Option.some.inj hc)
  ·have:=(Array.getElem?_eq_some_iff.1 hc).1
   rw[World.putObj_size] at this
   exact ah this
 refine⟨h.len,fun i x hx=>fD X x _ (h.tmps i x hx),⟨fun _=>hd,by rw[hd];exact Marks.nil _ _ _⟩,hp.hr o h.hr,⟨h.fr.os,h.fr.tape,h.fr.output,by simpa using h.fr.size,fun k hk gn=> ?_,fun k cur T fz hc=> ?_,fun r e b hr hl ah=>h.fr.rows r e b hr hl (by simpa using ah)⟩,?_,fun z b hz=>by simpa using h.aC z b hz,fun r e b hr hl=>by simpa using h.rows r e b hr hl⟩
 ·by_cases q:k=l
  ·subst q
   have ah:k<w0.heap.size:=by simpa using hk
   have:=h.fr.size
   rw[World.putObj_heap_same (by omega),World.putObj_heap_same ah]
  ·rw[World.putObj_heap_other q,World.putObj_heap_other q]
   exact h.fr.block k (by simpa using hk) gn
 ·have q:=aG k cur T fz hc
  rw[World.putObj_heap_other q] at hc⊢
  exact h.fr.grow k cur T fz hc
 ·refine⟨h.ext.ver,h.ext.dM,h.ext.abs,h.ext.aC,fun z b hz=> ?_,fun k cur T fz hc=> ?_,h.ext.pl⟩
  ·have q:b≠l:=fun q=>hp.aC z (q▸h.ext.aC z b hz)
   rw[World.putObj_heap_other q,World.putObj_heap_other q]
   exact h.ext.cell z b hz
  ·have q:=aG _ cur T fz hc
   rw[World.putObj_heap_other q] at hc⊢
   exact h.ext.grow k cur T fz hc
theorem oe:∀{c:Code},gx c=true→fa c=true
 | .skip,_=>rfl
 | .label _,_=>rfl
 | .region ..,_=>rfl
 | .seq a b,h=>by
  simp only[gx,Bool.and_eq_true] at h
  simp only[fa,Bool.and_eq_true]
  exact⟨oe h.1,oe h.2⟩
 | .cond _ a b,h=>by
  simp only[gx,Bool.and_eq_true] at h
  simp only[fa,Bool.and_eq_true]
  exact⟨oe h.1,oe h.2⟩
 | .block _ b,h=>by simp only[gx] at h;simp only[fa];exact oe h
 | .loop b,h=>by simp only[gx] at h;simp only[fa];exact oe h
 | .scope b,h=>by simp only[gx] at h;simp only[fa];exact oe h
 | .exit _,_=>rfl
 | .ret,_=>rfl
 | .rangeFunc ..,h=>by cases h
 | .goto _,h=>rfl
 | .refuse _,h=>rfl
theorem u6 {tb : TypeId → Option TI} (ay : cD P tb) {p rw ver : Nat} {i : rB} {tR : List AV} {args : List AV} {s : St} {dst : Option Tmp} {K0 : St → Prop}
    (et:bb s.H rw=some ⟨ver,.lp i tR none⟩) (o7:gx i.gX=true) (og:gx i.body=true) (hlen:args.length=i.ps.size)
    (h:gm tb P p i.gX (ML (gm tb P p i.body (MN rw ver i tR s dst K0))) ⟨lK tR i.ps.toList args,aJ s.H rw ⟨ver,.dead⟩⟩):
    rY P rw ver args s.H (rW s dst K0):=by
 rw[cj] at et
 unfold rY
 refine⟨⟨_,by rw[cj];exact et,rfl⟩,fun v us=>rW s dst K0 v us,fun E w cargs hr cg r n=> ?_,fun v us h=>h⟩
 have br:¬E.abs rw:=fun q=>by have:=hr.abs rw _ et q;simp[Bd.count] at this
 have b9:bN E rw ⟨ver,.lp i tR none⟩:=⟨rfl,br⟩
 obtain⟨gJ,R,o8,qj,gT,Gp,UW,MP,Gq,Gr,MQ⟩:=(hr.bS rw _ et b9).lp _ _ _ rfl
 obtain⟨l,hl⟩:∃l,l=E.ρ rw:=⟨_,rfl⟩
 rw[←hl] at o8⊢
 have ah:l<w.heap.size:=(Array.getElem?_eq_some_iff.1 o8).1
 have de:=(eX cg).1
 have gu:E.ver rw=ver:=hr.ver rw _ et
 have hy:=run_yield (P:=P) (args:=cargs.toArray) o8 (by rw[qj];simp;omega)
 refine⟨_,_,_,_,hy,roundIn_of_wpIn trivial ?_⟩
 rw[qj,gT,Gp,Gq]
 -- the rows without the record
 obtain⟨Hx,xV⟩:∃Hx,Hx=aJ s.H rw ⟨ver,.dead⟩:=⟨_,rfl⟩
 rw[←xV] at h
 have MR:HR E w Hx:=by rw[xV];exact hr.kill et
 have UX:∀(q:Nat)(e:J),Hx[q]? =some e→bN E q e→q≠rw∧s.H[q]? =some e:=by
  intro q e he hle
  rw[xV,bK,List.getElem?_set] at he
  by_cases qq:rw=q
  ·subst qq
   rw[if_pos rfl,if_pos (List.getElem?_eq_some_iff.1 et).1] at he
   cases he
   cases hle.1
  ·rw[if_neg qq] at he
   exact⟨fun h=>qq h.symm,he⟩
 have xW:∀(q:Nat)(e:J)(b:Nat),Hx[q]? =some e→aB E q e b→q≠rw∧s.H[q]? =some e:=by
  intro q e b he hle
  rw[xV,bK,List.getElem?_set] at he
  by_cases qq:rw=q
  ·subst qq
   rw[if_pos rfl,if_pos (List.getElem?_eq_some_iff.1 et).1] at he
   cases he
   exact absurd hle aB.dead
  ·rw[if_neg qq] at he
   exact⟨fun h=>qq h.symm,he⟩
 have BB:aB E rw ⟨ver,.lp i tR none⟩ l:=hl▸aB.of b9
 have kG:(oV E Hx True).keep l:=by
  intro q e he hle
  obtain⟨h1,h2⟩:=xW q e l he hle
  exact h1 (hr.inj q rw e _ l h2 et hle BB)
 have u7:∀z,¬E.aC z l:=fun z=>by rw[hl];exact hr.wF rw _ et b9 z
 have cr:R.state= .ready:=by rw[MP];rfl
 have qi:Rel w (oV E Hx True) E ⟨lK tR i.ps.toList args,Hx⟩ {tmps:=(i.ps.zip cargs.toArray).foldl (fun tmps x=>tmps.setIfInBounds x.1 x.2) i.tv,defers:=[]} w:=by
  have ht:=TR.put (ps:=i.ps.toList) (TR.Gn Gr) cg
  have he:(i.ps.zip cargs.toArray).foldl (fun tmps x=>tmps.setIfInBounds x.1 x.2) i.tv=(i.ps.toList.zip cargs).foldl (fun tmps x=>tmps.setIfInBounds x.1 x.2) i.tv:=by
   rw[←Array.foldl_toList,Array.toList_zip]
  rw[←he] at ht
  exact⟨ht.1,ht.2,⟨fun _=>rfl,Marks.nil _ _ _⟩,MR,⟨rfl,rfl,rfl,Nat.le_refl _,fun _ _ _=>rfl,fun _ cur T fz h=>⟨cur,T,fz,h,Nat.le_refl _⟩,fun r e b he hl _ hk=>hk r e he hl⟩,Ext.refl _ _,fun _ _ h=> .inl h,fun r e b he hl=> .inr ⟨r,e,he,hl⟩⟩
 -- no row made or kept lies where the record lies
 have off:∀{wb:World}{s1:St}{E1:Env}{a1:Act}{w1:World},wb.heap.size=w.heap.size→Rel wb (oV E Hx True) E1 s1 a1 w1→(∀z,¬E1.aC z l)∧∀(q:Nat)(e:J),s1.H[q]? =some e→¬aB E1 q e l:=by
  intro wb s1 E1 a1 w1 qD hR
  refine⟨fun z hz=> ?_,fun q e he hle=> ?_⟩
  ·rcases hR.aC z l hz with h1 | h1 | ⟨q0,e0,h1,h2⟩
   ·exact u7 z h1
   ·omega
   ·exact kG q0 e0 h1 h2
  ·rcases hR.rows q e l he hle with h1 | ⟨q0,e0,h1,h2⟩
   ·omega
   ·exact kG q0 e0 h1 h2
 obtain⟨ob,BC⟩:∃ob:Obj,ob= .loop {R with state:= .busy}:=⟨_,rfl⟩
 have fin : ∀ (jump : Option Code) (s2 : St) (E2 : Env) (a2 : Act) (w2 : World), Rel (w.putObj l ob) (oV E Hx True) E2 s2 a2 w2 → s2.H.length = s.H.length → bb s2.H rw = some ⟨ver, .dead⟩ →
     (Instr.endRound l jump).run P w2= .ok (.bool jump.isNone) (w2.putObj l (.loop {R with state:=if jump.isNone then .ready else .done,pending:=jump}))∧
     Out E E2 w (w2.putObj l (.loop {R with state:=if jump.isNone then .ready else .done,pending:=jump})) s.H (mv (aJ s2.H rw ⟨ver,.lp i tR jump⟩) 0):=by
  intro jump s2 E2 a2 w2 kZ tQ BD
  rw[cj] at BD
  have qD:(w.putObj l ob).heap.size=w.heap.size:=World.putObj_size
  have iB:w2.heap[l]? =some ob:=(kZ.fr.block l (by rw[qD];exact ah) kG).trans (World.putObj_heap_same ah)
  rw[BC] at iB
  obtain⟨o1,o2⟩:=off qD kZ
  have nu:=run_endRound (P:=P) jump iB
  simp only at nu
  refine⟨nu,?_⟩
  obtain⟨R',iZ⟩:∃R':Loop,R'={R with state:=if jump.isNone then .ready else .done,pending:=jump}:=⟨_,rfl⟩
  rw[←iZ]
  have pk:qC E2 w2 s2.H l:=⟨fun cur T fz q=>(by rw[iB] at q;cases q),o1,o2⟩
  have u9:∀(k:Nat) cur T fz,w.heap[k]? =some (.cells cur T fz)→k≠l:=by
   rintro k cur T fz hc rfl
   rw[o8] at hc;cases hc
  have XX:Ext E E2 w (w2.putObj l (.loop R')):=by
   have X:=kZ.ext
   refine⟨X.ver,X.dM,X.abs,X.aC,fun z b hz=> ?_,fun k cur T fz hc=> ?_,X.pl⟩
   ·have hb:b≠l:=fun q=>u7 z (q▸hz)
    rw[World.putObj_heap_other hb]
    exact(X.cell z b hz).trans (World.putObj_heap_other hb)
   ·have hb:=u9 _ _ _ _ hc
    rw[World.putObj_heap_other hb]
    exact X.grow k cur T fz ((World.putObj_heap_other (o:=ob) hb).trans hc)
  have Gs:E2.ver rw=E.ver rw:=by rw[kZ.hr.ver rw _ BD,gu]
  have xX:E2.ρ rw=l:=(XX.dM rw Gs).trans hl.symm
  have MS:¬E2.abs rw:=fun q=>br ((XX.abs rw Gs).1 q)
  have MT:HR E2 (w2.putObj l (.loop R')) (aJ s2.H rw ⟨ver,.lp i tR jump⟩):=by
   refine HR.raise (pk.hr _ kZ.hr) BD rfl ⟨fun q=>(by cases q),fun i' E9 Fa e=> ?_⟩ (fun q e h1=>by rw[xX];exact o2 q e h1) (fun z=>by rw[xX];exact o1 z) MS
   simp only[Bd.lp.injEq] at e
   obtain⟨rfl,rfl,rfl⟩:=e
   rw[xX]
   refine⟨hl.trans gJ,R',World.putObj_heap_same (Array.getElem?_eq_some_iff.1 iB).1,by rw[iZ];exact qj,by rw[iZ];exact gT,by rw[iZ];exact Gp,by rw[iZ],by rw[iZ],by rw[iZ];exact Gq,fV XX _ _ Gr,fun D hD=> ?_⟩
   obtain⟨⟨z,hz⟩,hd⟩:=MQ D hD
   exact⟨⟨z,XX.aC z D hz⟩,(XX.cell z D hz).trans hd⟩
  refine⟨XX,by rw[uY (by simp[bK,tQ])];exact MT,kZ.fr.os,kZ.fr.tape,kZ.fr.output,?_,fun z b hz=> ?_,fun k cur T fz hc=> ?_,fun k hk aG=> ?_,fun q e b he hle=> ?_⟩
  ·have:=kZ.fr.size;rw[qD] at this;rw[World.putObj_size];exact this
  ·have h:=kZ.aC z b hz
   rw[qD] at h
   exact h.imp id (Or.imp id fun⟨q0,e0,h1,h2⟩=>⟨q0,e0,(xW q0 e0 b h1 h2).2,h2⟩)
  ·have hb:=u9 _ _ _ _ hc
   rw[World.putObj_heap_other hb]
   exact kZ.fr.grow k cur T fz (by rw[World.putObj_heap_other hb];exact hc)
  ·have fF:∀(q:Nat)(e:J),s.H[q]? =some e→¬aB E q e k:=by
     intro q e h1 h2
     have hq:=(List.getElem?_eq_some_iff.1 h1).1
     exact aG q e h1 h2 (BA _ 0 q (Nat.zero_le _) (by simp[bK,tQ];exact hq))
   have bH:k≠l:=fun q=>fF rw _ et (q▸BB)
   rw[World.putObj_heap_other bH]
   refine(kZ.fr.block k (by rw[qD];exact hk) (fun q e h1 h2=> ?_)).trans (World.putObj_heap_other bH)
   exact fF q e (xW q e k h1 h2).2 h2
  ·rw[uY (by simp[bK,tQ])] at he
   rw[bK,List.getElem?_set] at he
   by_cases qq:rw=q
   ·subst qq
    rw[if_pos rfl] at he
    have mu:b=l:=by
     split at he
     ·cases he
      rcases hle with⟨_,h3⟩ | ⟨h3,_⟩
      ·exact h3.symm.trans xX
      ·cases h3
     ·cases he
    exact .inr ⟨rw,_,et,mu▸BB,.inl rfl⟩
   ·rw[if_neg qq] at he
    rcases kZ.rows q e b he hle with h1 | ⟨q0,e0,h1,h2⟩
    ·left;rw[qD] at h1;exact h1
    ·have hm:=(xW q0 e0 b h1 h2).2
     exact .inr ⟨q0,e0,hm,h2,.inr (BA _ 0 q0 (Nat.zero_le _) (by simp[bK,tQ];exact(List.getElem?_eq_some_iff.1 hm).1))⟩
 refine wpIn_mono (l9 ay (r:=some l) (n:=n) h (.inr o7) (fun _=>oe o7) qi) fun e a1 w1⟨ex,s1,E1,he,xY,hq⟩=> ?_
 subst he
 cases ex with
 | exit id=>exact hq.elim
 | ret=>exact hq.elim
 | normal=>
  have jv:w1.heap[l]? =some (.loop R):=(xY.fr.block l ah kG).trans o8
  obtain⟨o1,o2⟩:=off rfl xY
  refine⟨_,run_beginRound jv cr,?_⟩
  have MU:=xY.MO ob (by rw[BC];intro _ _ _ q;cases q) ⟨fun cur T fz q=>(by rw[jv] at q;cases q),o1,o2⟩ (xY.defers.1 trivial)
  rw[←BC]
  refine wpIn_mono (l9 ay (r:=some l) (n:=n) hq (.inr og) (fun _=>oe og) MU) fun e a2 w2⟨ex,s2,E2,he,BE,jx,og,hK⟩=> ?_
  subst he
  cases ex with
  | normal=>
   obtain⟨f1,f2⟩:=fin none s2 E2 a2 w2 BE jx og
   exact⟨_,_,f1,_,rfl,_,_,E2,by show K0 ⟨bc s.t dst (.val (.bool true)),aM s.H (mv _ 0)⟩;rw[uY (by simp[bK,jx])];exact hK,by rw[ae];rfl,f2⟩
  | exit id=>
   obtain⟨f1,f2⟩:=fin (some (.exit id)) s2 E2 a2 w2 BE jx og
   exact⟨_,_,f1,_,rfl,_,_,E2,by show K0 ⟨bc s.t dst (.val (.bool false)),aM s.H (mv _ 0)⟩;rw[uY (by simp[bK,jx])];exact hK,by rw[ae];rfl,f2⟩
  | ret=>
   obtain⟨f1,f2⟩:=fin (some .ret) s2 E2 a2 w2 BE jx og
   exact⟨_,_,f1,_,rfl,_,_,E2,by show K0 ⟨bc s.t dst (.val (.bool false)),aM s.H (mv _ 0)⟩;rw[uY (by simp[bK,jx])];exact hK,by rw[ae];rfl,f2⟩
def MV(tb:TypeId→Option TI)(rs:List ResultVar)(rw v:Nat)(i:rB)(t:List AV)(Q:Ex→St→Prop)(e:Ex)(s2:St):Prop:=
 uo tb rs (fun _ _=>True) e s2∧∃st,bb s2.H rw=some ⟨v,.lp i t st⟩∧match st with
  | none=>Q .normal ⟨t,aJ s2.H rw ⟨v,.dead⟩⟩
  | some (.exit id)=>Q (.exit id) ⟨t,aJ s2.H rw ⟨v,.dead⟩⟩
  | some .ret=>Q .ret ⟨t,aJ s2.H rw ⟨v,.dead⟩⟩
  | _=>False
theorem HR.more{E:Env}{w:World}{H:List J}(hr:HR E w H)(m:Nat):HR E w (H++cL m):=by
 have aI:∀(r:Nat)(e:J),(H++cL m)[r]? =some e→H[r]? =some e∨(H.length≤r∧e=⟨0,.dead⟩):=by
  intro r e he
  rw[List.getElem?_append] at he
  split at he
  ·exact .inl he
  ·exact .inr ⟨by omega,sb he⟩
 refine⟨fun r e he=> ?_,fun r e he hl=> ?_,fun r e he ha=> ?_,fun r r' e e' b he kM hl bA=> ?_,hr.cX,fun r e b he hl=> ?_,fun r h=>hr.top r (by rw[List.length_append] at h;omega),hr.gl,fun r v ls he=> ?_⟩
 ·rcases aI r e he with h1 | ⟨h1,rfl⟩
  ·exact hr.ver r e h1
  ·exact(hr.top r h1).1
 ·rcases aI r e he with h1 | ⟨h1,rfl⟩
  ·exact hr.bS r e h1 hl
  ·cases hl.1
 ·rcases aI r e he with h1 | ⟨h1,rfl⟩
  ·exact hr.abs r e h1 ha
  ·rfl
 ·rcases aI r e he with h1 | ⟨h1,rfl⟩
  ·rcases aI r' e' kM with h2 | ⟨h2,rfl⟩
   ·exact hr.inj r r' e e' b h1 h2 hl bA
   ·exact absurd bA aB.dead
  ·exact absurd hl aB.dead
 ·rcases aI r e he with h1 | ⟨h1,rfl⟩
  ·exact hr.dC r e b h1 hl
  ·exact absurd hl aB.dead
 ·rcases aI r _ he with h1 | ⟨h1,h2⟩
  ·exact hr.az r v ls h1
  ·cases h2
theorem Gt{H:List J}{m r b:Nat}{e:J}{E:Env}(h:(H++cL m)[r]? =some e)(hl:aB E r e b):H[r]? =some e:=by
 rw[List.getElem?_append] at h
 split at h
 ·exact h
 ·have:=sb h;subst this;exact absurd hl aB.dead
def Env.MW(E:Env)(D:Nat):Env:={E with aC:=fun z b=>E.aC z b∨(z=0∧b=D)}
theorem BG {tb : TypeId → Option TI} (ay : cD P tb) {p' : Nat} {g : Operand} {ps : Array Tmp} {gX body : Code} {Q : Ex → St → Prop} {s : St} {f : FuncId} {caps : List AV} {fn : Func} {c : Code} {nt m : Nat} {rs : List ResultVar} (rw v : Nat)
    (hg:bu s.t g= .clo f caps) (jX:dP s.t g) (hf:P.funcs[f]? =some fn) (hb:fn.body=some c) (hn:fn.ntmps=nt) (ma:fn.results=rs.toArray) (fG:∀(gO:Array Value)(w:World),(callFunc f gO).run P w= .ok (.enter f gO) w) (uq:fa c=true)
    (xU:bb (s.H++cL m) rw=some ⟨v,.dead⟩)
    (h:∀i:rB,i.ps=ps→i.gX=gX→i.body=body→gm tb P p' c (MV tb rs rw (v+1) i s.t Q) ⟨.gG rw (v+1)::caps++dg (nt - (caps.length+1)),aJ (s.H++cL m) rw ⟨v+1,.lp i s.t none⟩⟩):
    xn P g ps gX body Q s:=by
 rw[cj] at xU
 unfold xn
 intro w0 keep E a w MX hR n
 have xZ:=hR.ik jX
 rw[hg,ae] at xZ
 obtain⟨cs,xZ,cA⟩:=xZ
 refine wpIn_rangeFunc (F:=FR none) ?_
 intro Gu _
 -- the blocks that are laid
 obtain⟨D,hD⟩:∃D,D=w.heap.size:=⟨_,rfl⟩
 obtain⟨l,hl⟩:∃l,l=w.heap.size+1:=⟨_,rfl⟩
 obtain⟨R,oh⟩:∃R:Loop,R={state:= .ready,pending:=none,fn:=Gu,tmps:=a.tmps,params:=ps,assign:=gX,body,defers:=w.heap.size}:=⟨_,rfl⟩
 obtain⟨wD,qE⟩:∃wD,wD=w.alloc (.deferred (some [])):=⟨_,rfl⟩
 obtain⟨W1,qF⟩:∃W1,W1=wD.alloc (.loop R):=⟨_,rfl⟩
 have MY:wD.heap.size=w.heap.size+1:=by rw[qE,World.size_alloc]
 have MZ:wD.heap[D]? =some (.deferred (some [])):=by rw[qE,hD];exact World.alloc_heap_new w _
 have sD:∀k,k<w.heap.size→wD.heap[k]? =w.heap[k]?:=fun k hk=>by rw[qE];exact Below.heap_alloc _ _ _ hk
 have EE:∀k,k<wD.heap.size→W1.heap[k]? =wD.heap[k]?:=fun k hk=>by rw[qF];exact Below.heap_alloc _ _ _ hk
 have M0:W1.heap[l]? =some (.loop R):=by rw[qF,hl,←MY];exact World.alloc_heap_new wD _
 obtain⟨Ds,M1,M2,BH⟩:=hR.defers.2
 have Gv:=run_enterLoop_outer (P:=P) (w:=w) Gu a.tmps ps gX body
 rw[←qE,←oh,←qF] at Gv
 refine⟨_,_,_,{target:= .fn (.func f) cs.toArray,args:= #[.func (.yield (w.heap.size+1)) #[] #[]]},W1,f,#[.func (.yield (w.heap.size+1)) #[] #[]]++cs.toArray,W1,Gv,?_,fun _ _=>trivial,?_,fun q=>(by cases q),?_⟩
 ·simp only[resolve,xZ]
  simp[go_sem]
 ·simp[invoke,go_sem,fG]
 -- the environment with the two blocks
 obtain⟨ED,lL⟩:∃ED,ED=E.MW D:=⟨_,rfl⟩
 have XD:Ext E ED w wD:=by
  rw[lL]
  refine⟨fun _=>Nat.le_refl _,fun _ _=>rfl,fun _ _=>Iff.rfl,fun _ _ h=> .inl h,fun z b hz=>sD b (hR.hr.cX z b hz),fun r cur T fz hc=>⟨cur,T,fz,by rw[sD _ (Array.getElem?_eq_some_iff.1 hc).1];exact hc,Nat.le_refl _⟩,fun _ _ _ _ h=>h⟩
 have x6:∀(r:Nat)(e:J)(b:Nat),aB ED r e b→aB E r e b:=fun r e b h=>by rw[lL] at h;exact h
 have M3:HR ED wD s.H:=by
  refine⟨fun r e h=>by rw[lL];exact hR.hr.ver r e h,fun r e h hl=> ?_,fun r e h ha=>hR.hr.abs r e h (by rw[lL] at ha;exact ha),fun r r' e e' b h h' hl bA=>hR.hr.inj r r' e e' b h h' (x6 r e b hl) (x6 r' e' b bA),fun z b hz=> ?_,fun r e b h hl z hz=> ?_,fun r h=>by rw[lL];exact hR.hr.top r h,hR.hr.gl.ext XD,fun r v ls h=> ?_⟩
  ·have bA:bN E r e:=by rw[lL] at hl;exact hl
   have e1:ED.ρ r=E.ρ r:=by rw[lL];rfl
   rw[e1]
   exact(hR.hr.bS r e h bA).ext XD (sD _ (hR.hr.lt h bA))
  ·rw[lL] at hz
   rcases hz with hz | ⟨_,rfl⟩
   ·have:=hR.hr.cX z b hz;omega
   ·omega
  ·have bA:=x6 r e b hl
   rw[lL] at hz
   have:=hR.hr.blt h bA
   rcases hz with hz | ⟨_,hb⟩
   ·exact hR.hr.dC r e b h bA z hz
   ·omega
  ·have e1:ED.pl r=E.pl r:=by rw[lL];rfl
   rw[e1]
   exact(hR.hr.az r v ls h).mL fun i b hb=>sD b ((hR.hr.az r v ls h).lt hb)
 have OD:Out E ED w wD s.H []:=by
  refine⟨XD,M3,by rw[qE];rfl,by rw[qE];rfl,by rw[qE];rfl,by omega,fun z b hz=> ?_,fun k cur T fz hc=>⟨cur,T,fz,by rw[sD _ (Array.getElem?_eq_some_iff.1 hc).1];exact hc,Nat.le_refl _⟩,fun k hk _=>sD k hk,fun r e b h hl=> .inr ⟨r,e,h,x6 r e b hl,.inl rfl⟩⟩
  rw[lL] at hz
  rcases hz with hz | ⟨_,rfl⟩
  ·exact .inl hz
  ·right;omega
 have jB:Rel w0 keep ED s a wD:=by
  have:=hR.put (dst:=none) (x:= .any) (v:=undef) OD (by rw[ae];trivial)
  exact this
 have vd:Rel w0 keep ED ⟨s.t,s.H++cL m⟩ a wD:=
  ⟨jB.len,jB.tmps,jB.defers,jB.hr.more m,⟨jB.fr.os,jB.fr.tape,jB.fr.output,jB.fr.size,jB.fr.block,jB.fr.grow,fun r e b h hl=>jB.fr.rows r e b (Gt h hl) hl⟩,jB.ext,jB.aC,fun r e b h hl=>jB.rows r e b (Gt h hl) hl⟩
 obtain⟨i,hi⟩:∃i:rB,i=⟨l,a.tmps,D::Ds,ps,gX,body⟩:=⟨_,rfl⟩
 have O1:Out ED (ED.set rw l (v+1)) wD W1 (s.H++cL m) [(rw,⟨v+1,.lp i s.t none⟩)]:=by
  refine Out.one vd.hr xU rfl (.inr (by simp)) (.inr (by omega)) (by rw[qF];rfl) (by rw[qF];rfl) (by rw[qF];rfl) (by rw[qF,World.size_alloc];omega) (fun k hk _=>EE k hk) (fun cur T fz hc=> ?_) (fun X=>⟨fun q=>(by cases q),fun i' E9 Fa e=> ?_⟩)
  ·have:=(Array.getElem?_eq_some_iff.1 hc).1;omega
  ·simp only[Bd.lp.injEq] at e
   obtain⟨rfl,rfl,rfl⟩:=e
   refine⟨by rw[hi],R,M0,by rw[oh,hi],by rw[oh,hi],by rw[oh,hi],by rw[oh],by rw[oh];rfl,by rw[oh,hi],?_,fun D' jC=> ?_⟩
   ·have ht:TR ED wD s.t a.tmps:=⟨jB.len,jB.tmps⟩
    rw[hi]
    exact fV X _ _ ht.MK
   ·rw[hi] at jC
    have key:(∃z,ED.aC z D')∧wD.heap[D']? =some (.deferred (some [])):=by
     rcases List.mem_cons.1 jC with rfl | jC
     ·exact⟨⟨0,by rw[lL];exact .inr ⟨rfl,rfl⟩⟩,MZ⟩
     ·obtain⟨_,⟨z,hz⟩,hh⟩:=BH D' jC
      exact⟨⟨z,XD.aC z D' hz⟩,(XD.cell z D' hz).trans hh⟩
    obtain⟨⟨z,hz⟩,hh⟩:=key
    exact⟨⟨z,X.aC z D' hz⟩,(X.cell z D' hz).trans hh⟩
 obtain⟨E1,ub⟩:∃E1,E1=ED.set rw l (v+1):=⟨_,rfl⟩
 rw[←ub] at O1
 have nv:=vd.put (dst:=none) (x:= .any) (v:=undef) O1 (by rw[ae];trivial)
 have tV:a.put none undef=a:=rfl
 rw[tV] at nv
 simp only[bc,aM] at nv
 have X1:Ext E E1 w W1:=XD.trans O1.ext
 have cg:aq E1 W1 (.gG rw (v+1)::caps) (.func (.yield l) #[] #[]::cs):=by
  rw[Go.Proofs.YtpbpiehcchannaaGreatDoor.aq]
  refine⟨_,_,rfl,?_,fV X1 _ _ cA⟩
  rw[ae]
  refine⟨by rw[ub,Env.kH];exact Nat.le_refl _,fun _=>by rw[ub,Env.ln]⟩
 have cr:=xp hn nv.hr cg 0 True
 have M4:Rel w0 {keep with pure:=True} E1 ⟨.gG rw (v+1)::caps++dg (nt - (caps.length+1)),aJ (s.H++cL m) rw ⟨v+1,.lp i s.t none⟩⟩ {tmps:=(.func (.yield l) #[] #[]::cs).toArray++Array.replicate (fn.ntmps - (.func (.yield l) #[] #[]::cs).toArray.size) undef,defers:=[]} W1:=
  ⟨cr.len,cr.tmps,⟨fun _=>rfl,Marks.nil _ _ _⟩,nv.hr,nv.fr,nv.ext,nv.aC,nv.rows⟩
 have M5: #[.func (.yield (w.heap.size+1)) #[] #[]]++cs.toArray=(Value.func (.yield l) #[] #[]::cs).toArray:=by
  rw[hl]
  apply Array.ext'
  simp
 rw[M5]
 refine(callsIn_wide (n:=n - 1)).2 (calls_of_wp hf hb (wp_mono (AK (keep:={keep with pure:=True}) ay (h i (by rw[hi]) (by rw[hi]) (by rw[hi])) (fun _=>uq) M4) ?_))
 rintro e a' w3 ⟨ex,s2,E3,rfl,gT,M6,st,qG,x7⟩
 obtain⟨hex,vv,x,k1,k2,_⟩:=xo ay ma M6 gT
 have Gw:=gT.defers.1 trivial
 rw[cj] at qG
 have br:¬E3.abs rw:=fun q=>by have:=gT.hr.abs rw _ qG q;simp[Bd.count] at this
 have BJ:bN E3 rw ⟨v+1,.lp i s.t st⟩:=⟨rfl,br⟩
 obtain⟨BK,R3,g1,g2,g3,g4,g5,g6,g7,g8,g9⟩:=(gT.hr.bS rw _ qG BJ).lp _ _ _ rfl
 have BL:i.l=l:=by rw[hi]
 rw[BK,BL] at g1
 have nu:=run_endLoop (P:=P) g1 (by rw[g6];split<;>simp)
 obtain⟨w4,mw⟩:∃w4,w4=w3.putObj l (.loop {R3 with state:= .exhausted}):=⟨_,rfl⟩
 rw[←mw,g5] at nu
 have gJ:w0.heap.size≤w.heap.size:=hR.fr.size
 have u9:∀(k:Nat) cur T fz,w3.heap[k]? =some (.cells cur T fz)→k≠l:=by
  rintro k cur T fz hc rfl
  rw[g1] at hc;cases hc
 have u7:∀z,¬E3.aC z l:=fun z=>by rw[←BL,←BK];exact gT.hr.wF rw _ qG BJ z
 have M7:aB E3 rw ⟨v+1,.lp i s.t st⟩ l:=by rw[←BL,←BK];exact aB.of BJ
 have n3:∀(q:Nat)(e:J),(aJ s2.H rw ⟨v+1,.dead⟩)[q]? =some e→(∃b,aB E3 q e b)→q≠rw∧s2.H[q]? =some e:=by
  intro q e he hle
  rw[bK,List.getElem?_set] at he
  by_cases qq:rw=q
  ·subst qq
   rw[if_pos rfl,if_pos (List.getElem?_eq_some_iff.1 qG).1] at he
   cases he
   obtain⟨b,hb⟩:=hle
   exact absurd hb aB.dead
  ·rw[if_neg qq] at he
   exact⟨fun h=>qq h.symm,he⟩
 have pk:qC E3 w3 (aJ s2.H rw ⟨v+1,.dead⟩) l:=by
  refine⟨fun cur T fz q=>(by rw[g1] at q;cases q),u7,fun q e he hle=> ?_⟩
  obtain⟨n1,n2⟩:=n3 q e he ⟨l,hle⟩
  exact n1 (gT.hr.inj q rw e _ l n2 qG hle M7)
 have BM:Rel w0 keep E3 ⟨s.t,aJ s2.H rw ⟨v+1,.dead⟩⟩ {a with defers:=mark D::a.defers} w4:=by
  have M8:i.tv=a.tmps:=by rw[hi]
  rw[M8] at g8
  have ht:=TR.Gn g8
  have X3:=pk.ext (.loop {R3 with state:= .exhausted})
  rw[←mw] at X3
  have M9:=gT.hr.kill qG
  refine⟨ht.1,fun q y hy=>fD X3 _ _ (ht.2 q y hy),⟨fun q=>absurd q MX,D::Ds,by simp[M1],List.nodup_cons.2 ⟨fun hm=> ?_,M2⟩,fun D' jC=> ?_⟩,by rw[mw];exact pk.hr _ M9,⟨?_,?_,?_,?_,fun k hk gn=> ?_,fun k cur T fz hc=> ?_,fun q e b he hle ah=> ?_⟩,?_,gT.aC,fun q e b he hle=>gT.rows q e b (n3 q e he ⟨b,hle⟩).2 hle⟩
  ·have:=(Array.getElem?_eq_some_iff.1 (BH D hm).2.2).1;omega
  ·obtain⟨⟨z,hz⟩,hh⟩:=g9 D' (by rw[hi];exact jC)
   refine⟨?_,⟨z,hz⟩,(X3.cell z D' hz).trans hh⟩
   rcases List.mem_cons.1 jC with rfl | jC
   ·omega
   ·exact(BH D' jC).1
  ·rw[mw];exact gT.fr.os
  ·rw[mw];exact gT.fr.tape
  ·rw[mw];exact gT.fr.output
  ·rw[mw,World.putObj_size];exact gT.fr.size
  ·rw[mw,World.putObj_heap_other (by omega)];exact gT.fr.block k hk gn
  ·obtain⟨cW,T',eS,m1,m2⟩:=gT.fr.grow k cur T fz hc
   exact⟨cW,T',eS,by rw[mw,World.putObj_heap_other (u9 _ _ _ _ m1)];exact m1,m2⟩
  ·exact gT.fr.rows q e b (n3 q e he ⟨b,hle⟩).2 hle ah
  ·have X:=gT.ext
   refine⟨X.ver,X.dM,X.abs,X.aC,fun z b hz=> ?_,fun k cur T fz hc=> ?_,X.pl⟩
   ·have hb:b≠l:=fun q=>u7 z (q▸X.aC z b hz)
    rw[mw,World.putObj_heap_other hb]
    exact X.cell z b hz
   ·obtain⟨cW,T',eS,m1,m2⟩:=X.grow k cur T fz hc
    exact⟨cW,T',eS,by rw[mw,World.putObj_heap_other (u9 _ _ _ _ m1)];exact m1,m2⟩
 have final:rangePost (FR none) n P l (uk w0 keep Q) {a with defers:=mark D::a.defers} (.returned vv) w3:=by
  refine⟨st,w4,nu,?_⟩
  cases st with
  | none=>exact⟨.normal,_,E3,rfl,BM,x7⟩
  | some c=>
   cases c<;>first | exact x7.elim | skip
   ·exact wpIn_exit ⟨.exit _,_,E3,rfl,BM,x7⟩
   ·exact wpIn_ret ⟨.ret,_,E3,rfl,BM,x7⟩
 rw[hl,hD] at final
 rcases hex with rfl | rfl
 ·exact⟨Gw,vv,k1,final⟩
 ·exact⟨Gw,vv,k1,final⟩
mutual
def jh:AV→Prop
 | .agg l=>fH l
 | .aD l=>fH l
 | .sl z sz f d l=>0<sz∧∀a,fH (f a)
 | .cp z cells j=>cells≠[]∧fH cells
 | .clo f caps=>fH caps
 | .gd φ x=>jh x
 | .any=>True
 | .val _=>True
 | .bs .. =>True
 | .own .. =>True
 | .ref .. =>True
 | .gG .. =>True
 | .pl .. =>True
 | .iQ .. =>True
def fH:List AV→Prop
 | []=>True
 | x::xs=>jh x∧fH xs
end
def sE:Bd→Prop
 | .dead=>True
 | .bytes _=>True
 | .row sz f d l=>∀a,fH (f a)
 | .obj l=>fH l
 | .lp .. =>False
 | .az _=>True
def o9:List J→Prop
 | []=>True
 | e::es=>sE e.bd∧o9 es
theorem Gx:∀{H:List J}{r:Nat}{e:J},o9 H→H[r]? =some e→sE e.bd
 | x::H,0,e,h,he=>by simp at he;subst he;exact h.1
 | x::H,r+1,e,h,he=>Gx (H:=H) h.2 (by simpa using he)
theorem Na{bd:Bd}(h:sE bd){i:Nat}{ys:List AV}(hy:bd.at i=some ys):fH ys:=by
 cases bd with
 | dead=>simp[Bd.at] at hy
 | bytes l=>
  simp only[Bd.at,Option.map_eq_some_iff] at hy
  obtain⟨b,_,rfl⟩:=hy
  simp[fH,jh]
 | row sz f d l=>
  simp only[Bd.at,Option.map_eq_some_iff] at hy
  obtain⟨b,_,rfl⟩:=hy
  exact h b
 | obj l=>
  simp only[Bd.at] at hy
  split at hy
  ·cases hy;exact h
  ·cases hy
 | lp=>simp[Bd.at] at hy
 | az=>simp[Bd.at] at hy
def Env.cut(E:Env)(D:Nat):Env:={E with aC:=fun z b=>E.aC z b∧b≠D}
section
variable {E:Env} {w:World} {D:Nat} {o:Obj}
theorem ve(hD:∀cur T fz,w.heap[D]? ≠some (.cells cur T fz)){b k:Nat}{v:Value}(h:w.cell? ⟨b,k,none⟩=some v):b≠D∧(w.putObj D o).cell? ⟨b,k,none⟩=some v:=by
 obtain⟨cur,T,fz,hc⟩:=MJ h
 have hb:b≠D:=fun q=>hD cur T fz (by rw[←q];exact hc)
 exact⟨hb,(World.cell_of_heap (World.putObj_heap_other hb)).trans h⟩
mutual
theorem BO(hD:∀cur T fz,w.heap[D]? ≠some (.cells cur T fz)):∀(x:AV)(v:Value),jh x→ae E w x v→ae (E.cut D) (w.putObj D o) x v
 | .any,v,_,h=>by rw[ae];trivial
 | .val u,v,_,h=>by rw[ae] at h⊢;exact h
 | .agg l,v,hn,h=>by
  rw[ae] at h⊢
  rw[jh] at hn
  obtain⟨cs,rfl,h⟩:=h
  exact⟨cs,rfl,qH hD l cs hn h⟩
 | .aD l,v,hn,h=>by
  rw[ae] at h⊢
  rw[jh] at hn
  obtain⟨cs,rfl,h⟩:=h
  exact⟨cs,rfl,qH hD l cs hn h⟩
 | .bs z l,v,_,h=>by
  rw[ae] at h⊢
  obtain⟨a,n,c,rfl,h1,h2,h3,h4,h5⟩:=h
  refine⟨a,n,c,rfl,h1,h2,h3,h4,fun i x hx=> ?_⟩
  obtain⟨b,k,h6,h7,h8⟩:=h5 i x hx
  obtain⟨hb,hc⟩:=ve (o:=o) hD h8
  exact⟨b,k,h6,⟨h7,hb⟩,hc⟩
 | .sl z sz f d l,v,hn,h=>by
  rw[ae] at h⊢
  rw[jh] at hn
  obtain⟨a,n,c,rfl,h1,h2,h3,h4,h5⟩:=h
  refine⟨a,n,c,rfl,h1,h2,h3,h4,fun i x hx=> ?_⟩
  obtain⟨b,k,cs,h6,h7,h8,h9,km⟩:=h5 i x hx
  have h0:=km 0 _ (List.getElem?_eq_getElem (by omega))
  have hb:=(ve (o:=o) hD h0).1
  exact⟨b,k,cs,h6,⟨h7,hb⟩,h8,qH hD (f x) cs (hn.2 x) h9,fun j u hu=>(ve hD (km j u hu)).2⟩
 | .own r ver sz off n,v,_,h=>by
  rw[ae] at h⊢
  refine⟨h.1,fun e=> ?_⟩
  obtain⟨a,c,rfl,h1,h2,h3,h4⟩:=h.2 e
  refine⟨a,c,rfl,h1,h2,h3,h4.imp id fun⟨h5,h6,cur,T,fz,h7,h8⟩=>⟨h5,h6,cur,T,fz,?_,h8⟩⟩
  have hb:E.ρ r≠D:=fun q=>hD cur T fz (by rw[←q];exact h7)
  exact(World.putObj_heap_other (o:=o) hb).trans h7
 | .ref r ver sz i j,v,_,h=>by rw[ae] at h⊢;exact h
 | .cp z cells j,v,hn,h=>by
  rw[ae] at h⊢
  rw[jh] at hn
  obtain⟨b,k,cs,rfl,h7,h9,km⟩:=h
  have hl:=(eX h9).1
  have l5:0<cs.length:=by
   rw[←hl]
   cases cells with
   | nil=>exact absurd rfl hn.1
   | cons=>simp
  have hb:=(ve (o:=o) hD (km 0 _ (List.getElem?_eq_getElem l5))).1
  exact⟨b,k,cs,rfl,⟨h7,hb⟩,qH hD cells cs hn.2 h9,fun j u hu=>(ve hD (km j u hu)).2⟩
 | .clo f caps,v,hn,h=>by
  rw[ae] at h⊢
  rw[jh] at hn
  obtain⟨cs,rfl,h⟩:=h
  exact⟨cs,rfl,qH hD caps cs hn h⟩
 | .gG r ver,v,_,h=>by rw[ae] at h⊢;exact h
 | .pl r ver i off n,v,_,h=>by
  rw[ae] at h⊢
  refine⟨h.1,fun e=> ?_⟩
  obtain⟨a,c,rfl,h1,h2,h3,h4⟩:=h.2 e
  refine⟨a,c,rfl,h1,h2,h3,h4.imp id fun⟨b,h5,h6,cur,T,fz,h7,h8⟩=>⟨b,h5,h6,cur,T,fz,?_,h8⟩⟩
  have hb:b≠D:=fun q=>hD cur T fz (by rw[←q];exact h7)
  exact(World.putObj_heap_other (o:=o) hb).trans h7
 | .iQ r ver i k,v,_,h=>by rw[ae] at h⊢;exact h
 | .gd φ x,v,hn,h=>by
  rw[ae] at h⊢
  rw[jh] at hn
  exact⟨fun p=>BO hD x v hn (h.1 p),h.2⟩
theorem qH(hD:∀cur T fz,w.heap[D]? ≠some (.cells cur T fz)):∀(xs:List AV)(vs:List Value),fH xs→aq E w xs vs→aq (E.cut D) (w.putObj D o) xs vs
 | [],vs,_,h=>by rw[aq] at h⊢;exact h
 | x::xs,vs,hn,h=>by
  rw[aq] at h⊢
  rw[fH] at hn
  obtain⟨v,dm,rfl,h1,h2⟩:=h
  exact⟨v,dm,rfl,BO hD x v hn.1 h1,qH hD xs dm hn.2 h2⟩
end
end
theorem Gy:∀{t:List AV}{i:Nat}{x:AV},fH t→t[i]? =some x→jh x
 | y::t,0,x,h,hx=>by simp at hx;subst hx;rw[fH] at h;exact h.1
 | y::t,i+1,x,h,hx=>by rw[fH] at h;exact Gy (t:=t) h.2 (by simpa using hx)
theorem Rel.cut {w0 : World} {keep : Bs} {E : Env} {s : St} {a : Act} {w : World} (h : Rel w0 keep E s a w) (ht : fH s.t) (hH : o9 s.H) {D : Nat} {ds : Option (List Deferred)} (hD : w.heap[D]? = some (.deferred ds)) (h0 : w0.heap.size ≤ D) (o : Obj) :
    Rel w0 keep (E.cut D) s {a with defers:=[]} (w.putObj D o):=by
 have hc:∀cur T fz,w.heap[D]? ≠some (.cells cur T fz):=fun cur T fz q=>by rw[hD] at q;cases q
 have et:∀(r:Nat)(e:J),s.H[r]? =some e→bN E r e→E.ρ r≠D:=by
  intro r e hr hl q
  have fG:=h.hr.bS r e hr hl
  cases hb:e.bd with
  | dead=>have:=hl.1;rw[hb] at this;cases this
  | az=>have:=hl.1;rw[hb] at this;cases this
  | lp i tR st=>
   obtain⟨_,R,h1,_⟩:=fG.lp _ _ _ hb
   rw[q,hD] at h1;cases h1
  | bytes l=>obtain⟨cur,T,lo,hi,h1,_⟩:=fG.aQ (by rw[hb];rfl);rw[q] at h1;exact hc _ _ _ h1
  | row sz f d l=>obtain⟨cur,T,lo,hi,h1,_⟩:=fG.aQ (by rw[hb];rfl);rw[q] at h1;exact hc _ _ _ h1
  | obj l=>obtain⟨cur,T,lo,hi,h1,_⟩:=fG.aQ (by rw[hb];rfl);rw[q] at h1;exact hc _ _ _ h1
 refine⟨h.len,fun i x hx=>BO hc x _ (Gy ht hx) (h.tmps i x hx),⟨fun _=>rfl,Marks.nil _ _ _⟩,⟨h.hr.ver,fun r e hr hl=> ?_,h.hr.abs,h.hr.inj,fun z b hz=>by rw[World.putObj_size];exact h.hr.cX z b hz.1,fun r e b hr hl z hz=>h.hr.dC r e b hr hl z hz.1,h.hr.top,fun g cs hg=> ?_,fun r v ls hr=>(h.hr.az r v ls hr).mL fun i b hb=> ?_⟩,⟨h.fr.os,h.fr.tape,h.fr.output,by simpa using h.fr.size,fun k hk gn=> ?_,fun k cur T fz kA=> ?_,h.fr.rows⟩,⟨h.ext.ver,h.ext.dM,h.ext.abs,fun z b hz=> ?_,fun z b hz=> ?_,fun k cur T fz kA=> ?_,h.ext.pl⟩,fun z b hz=>h.aC z b hz.1,h.rows⟩
 ·have hn:=Gx hH hr
  have fG:=h.hr.bS r e hr hl
  have aG:=et r e hr hl
  refine⟨fun q=> ?_,fun i tR st q=>by rw[q] at hn;exact hn.elim⟩
  obtain⟨cur,T,lo,hi,h1,h2,h3,h4⟩:=fG.aQ q
  refine⟨cur,T,lo,hi,(World.putObj_heap_other (w:=w) (o:=o) aG).trans h1,h2,h3,fun i ys hy=> ?_⟩
  obtain⟨cs,h5,h6,h7⟩:=h4 i ys hy
  exact⟨cs,h5,qH hc _ _ (Na hn hy) h6,h7⟩
 ·have h1:=h.hr.gl g cs hg
  have hb:g≠D:=by
   intro q
   cases cs with
   | nil=>exact Nb hg rfl
   | cons u cs=>
    have h2:=h1.2 0 u rfl
    rw[q,World.cell?] at h2
    simp[hD] at h2
  exact⟨⟨h1.1,hb⟩,fun j u hu=>(World.cell_of_heap (World.putObj_heap_other (w:=w) (o:=o) hb)).trans (h1.2 j u hu)⟩
 ·have hp:=h.hr.az r v ls hr
  obtain⟨cur,T,lo,hi,h1,_⟩:=hp.aQ i _ b (List.getElem?_eq_getElem (hp.top i b hb)) hb
  exact World.putObj_heap_other (fun q=>hc cur T _ (by rw[←q];exact h1))
 ·rw[World.putObj_heap_other (by omega)];exact h.fr.block k hk gn
 ·obtain⟨cW,T',eS,h1,h2⟩:=h.fr.grow k cur T fz kA
  exact⟨cW,T',eS,by rw[World.putObj_heap_other (fun q=>hc _ _ _ (by rw[←q];exact h1))];exact h1,h2⟩
 ·refine⟨h.ext.aC z b hz,fun q=> ?_⟩
  have:=h.ext.cell z b hz
  rw[q,hD] at this
  have:=(Array.getElem?_eq_some_iff.1 this.symm).1
  omega
 ·have:=h.ext.cell z b hz
  have hb:b≠D:=fun q=>by
   rw[q,hD] at this
   have:=(Array.getElem?_eq_some_iff.1 this.symm).1
   omega
  rw[World.putObj_heap_other hb];exact this
 ·obtain⟨cW,T',eS,h1,h2⟩:=h.ext.grow k cur T fz kA
  exact⟨cW,T',eS,by rw[World.putObj_heap_other (fun q=>hc _ _ _ (by rw[←q];exact h1))];exact h1,h2⟩
def shut:List Nat→World→World
 | [],w=>w
 | D::Ds,w=>shut Ds (w.putObj D (.deferred none))
theorem Gz {F : Fence} {n : Nat} {fn : Func} {tmps : Array Value} {R : Ending → World → Prop} : ∀ {Ds : List Nat} {w : World}, Ds.Nodup → (∀ D ∈ Ds, w.heap[D]? = some (.deferred (some []))) → (∃ v, (results fn tmps).run P (shut Ds w) = .ok v (shut Ds w) ∧ R (.returned v) (shut Ds w)) →
    LeavesInM F n P fn tmps R (Ds.map mark) .returning w
 | [],w,_,_,h=>h
 | D::Ds,w,dK,hD,h=>by
  obtain⟨h1,h2⟩:=List.nodup_cons.1 dK
  refine⟨by simp,.inl ⟨D,w.putObj D (.deferred none),rfl,run_takeDeferred (hD D (by simp)),Gz h2 (fun D' jC=> ?_) h⟩⟩
  rw[World.putObj_heap_other (fun q=>h1 (by rw[←q];exact jC))]
  exact hD D' (by simp[jC])
theorem Rel.GA{w0:World}{keep:Bs}{s:St}(ht:fH s.t)(hH:o9 s.H):∀{Ds:List Nat}{E:Env}{a:Act}{w:World},Rel w0 keep E s a w→Ds.Nodup→(∀D∈Ds,w0.heap.size≤D∧w.heap[D]? =some (.deferred (some [])))→∃E',Rel w0 keep E' s {a with defers:=if Ds=[] then a.defers else[]} (shut Ds w)
 | [],E,a,w,h,_,_=>⟨E,h⟩
 | D::Ds,E,a,w,h,dK,hD=>by
  obtain⟨h1,h2⟩:=List.nodup_cons.1 dK
  obtain⟨h3,h4⟩:=hD D (by simp)
  have hc:=h.cut ht hH h4 h3 (.deferred none)
  obtain⟨E',h5⟩:=Rel.GA ht hH (Ds:=Ds) hc h2 (fun D' jC=>⟨(hD D' (by simp[jC])).1,by rw[World.putObj_heap_other (fun q=>h1 (by rw[←q];exact jC))];exact(hD D' (by simp[jC])).2⟩)
  refine⟨E',?_⟩
  have e:(if Ds=[] then([]:List Deferred) else[])=[]:=by split<;>rfl
  simp only[e] at h5
  rw[if_neg (by simp)]
  exact h5
def Nc(tb:TypeId→Option TI)(rs:List ResultVar)(post:AV→List J→Prop)(e:Ex)(s:St):Prop:=∃s',iD s s'∧fH s'.t∧o9 s'.H∧uo tb rs post e s'
theorem vf {tb : TypeId → Option TI} (ay : cD P tb) {f : FuncId} {fn : Func} {c : Code} {n : Nat} {rs : List ResultVar} (hf : P.funcs[f]? = some fn) (hb : fn.body = some c) (hn : fn.ntmps = n) (ma : fn.results = rs.toArray)
    {args:List AV} {H0:List J} {post:AV→List J→Prop} (p m:Nat) (h:gm tb P p c (Nc tb rs fun x H=>H0.length≤H.length∧post x H) ⟨args++dg (n - args.length),H0++cL m⟩):Spec P f args H0 post:=by
 intro w E cargs hr cg
 refine(callsIn_wide (n:=0)).1 (callsIn_of_wp_marks hf hb trivial (wpIn_mono (l9 (r:=none) (keep:=oV E H0 False) ay h (.inl rfl) (fun q=>q.elim) (xp hn hr cg m False)) ?_))
 rintro e a w' ⟨ex,s0,E0,rfl,qi,s,hle,ht,hH,hQ⟩
 obtain⟨E1,o8⟩:=hle _ _ _ _ _ qi
 obtain⟨Ds,o7,og,BP⟩:=o8.defers.2
 obtain⟨E',hR⟩:=Rel.GA ht hH o8 og (fun D hD=>⟨(BP D hD).1,(BP D hD).2.2⟩)
 obtain⟨hex,v,x,h1,h2,h3⟩:=xo ay ma hQ hR
 have key:LeavesInM (FR none) 0 P fn a.tmps (fun e w'=>∃v x H E',e= .returned v∧post x H∧ae E' w' x v∧HR E' w' H∧Ext E E' w w'∧(∀z b,E'.aC z b→E.aC z b∨w.heap.size≤b∨Hb E H0 b)∧H0.length≤H.length∧(∀(r:Nat)(e:J)(b:Nat),H[r]? =some e→aB E' r e b→w.heap.size≤b∨∃(r0:Nat)(e0:J),H0[r0]? =some e0∧aB E r0 e0 b)∧Fr w (fun k=>∀(r:Nat)(e:J),H0[r]? =some e→¬aB E r e k) E' H w') a.defers .returning w':=by
  rw[o7]
  exact Gz og (fun D hD=>(BP D hD).2.2) ⟨v,h1,v,x,s.H,E',rfl,h3.2,h2,hR.hr,hR.ext,hR.aC,h3.1,hR.rows,hR.fr⟩
 rcases hex with rfl | rfl
 ·exact key
 ·exact key
end
end Go.Proofs.YtpbpiehcchannaaGreatDoor
