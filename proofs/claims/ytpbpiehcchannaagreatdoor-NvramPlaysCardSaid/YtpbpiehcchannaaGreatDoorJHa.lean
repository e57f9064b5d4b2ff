/- Rows that nobody writes any more become zones; calls of functions that keep off all rows. Conditions: the premises of each. A function some of whose new rows are the zone 0 behind it, and some stay rows. A row that takes another one's place. A row that becomes a part of zone 0 where a loop goes back. Conditions: the premises. Conditions: the premises of each law. -/
import Derived.Test.YtpbpiehcchannaaGreatDoorJAp
import Derived.Test.YtpbpiehcchannaaGreatDoorJAc
namespace Go.Proofs.YtpbpiehcchannaaGreatDoor
set_option linter.unusedVariables false
set_option linter.unusedSimpArgs false
open Go.RowKit
/-! what a slice of a row, or a pointer into one, reads as, where the row's blocks lie in a zone -/
theorem Eu{E E':Env}{w:World}{H:List U}(hr:HR E w H){r ver off n ζ:Nat}{l:List UInt8}(he:H[r]? =some ⟨ver,.bytes l⟩)(hle:off+n≤l.length){v:Value}(h:ah E w (.own r ver 1 off n) v)(hz:∀b,aE E r ⟨ver,.bytes l⟩ b→E'.aD ζ b):ah E' w (.bs ζ ((l.drop off).take n)) v:=by
 simp only[ah] at h⊢
 obtain⟨a,c,rfl,h2,h3,h4,h5⟩:=h.2 (hr.ver r _ he).symm
 refine⟨a,n,c,rfl,by rw[List.length_take,List.length_drop];omega,h2,h3,h4,fun i x hx=> ?_⟩
 have hi:=(List.getElem?_eq_some_iff.1 hx).1
 rw[List.length_take] at hi
 obtain⟨bo,rfl,_⟩:=h5.resolve_left (by omega)
 have cn:bH E r ⟨ver,.bytes l⟩:=⟨rfl,bo⟩
 obtain⟨cur,T,lo,bG,g1,g2,g3,g4⟩:=(hr.bM r _ he cn).aO rfl
 have qp:l[off+i]? =some x:=by
  rw[List.getElem?_take] at hx
  split at hx
  ·rw[List.getElem?_drop] at hx;exact hx
  ·cases hx
 obtain⟨cs,k1,k2,k3⟩:=g4 (off+i) [.val (bv x)] (by simp only[Bd.at];rw[qp];rfl)
 simp only[aw,ah] at k2
 obtain⟨u,vs,rfl,rfl,rfl⟩:=k2
 refine⟨_,_,rfl,hz _ (aE.of cn),?_⟩
 rw[cell_of_row w _ _ cur T (lo,bG) g1]
 have:=k3 0 _ rfl
 simp only[Bd.sz,Nat.add_zero,Nat.mul_one] at this⊢
 exact this
theorem Ev {E E' : Env} {w : World} {H : List U} (hr : HR E w H) {r ver sz n ζ : Nat} {α β : Type} {f : α → List AV} {d : α} {l : List α} {g : β → List AV} {d' : β} {ls : List β} (he : H[r]? = some ⟨ver, .row sz f d l⟩) (hn : n = l.length) (hl : ls.length = n)
    (gM:∀(i:Nat)(x:α)(y:β) cs,l[i]? =some x→ls[i]? =some y→aw E w (f x) cs→aw E' w (g y) cs) {v:Value} (h:ah E w (.own r ver sz 0 n) v) (hz:∀b,aE E r ⟨ver,.row sz f d l⟩ b→E'.aD ζ b):ah E' w (.sl ζ sz g d' ls) v:=by
 simp only[ah] at h⊢
 obtain⟨a,c,rfl,h2,h3,h4,h5⟩:=h.2 (hr.ver r _ he).symm
 refine⟨a,n,c,rfl,hl.symm,h2,h3,h4,fun i x hx=> ?_⟩
 have hi:=(List.getElem?_eq_some_iff.1 hx).1
 obtain⟨bo,rfl,_⟩:=h5.resolve_left (by omega)
 have cn:bH E r ⟨ver,.row sz f d l⟩:=⟨rfl,bo⟩
 obtain⟨cur,T,lo,bG,g1,g2,g3,g4⟩:=(hr.bM r _ he cn).aO rfl
 have eL:i<l.length:=by omega
 obtain⟨cs,k1,k2,k3⟩:=g4 i (f l[i]) (by simp only[Bd.at];rw[List.getElem?_eq_getElem eL];rfl)
 refine⟨_,_,cs,rfl,hz _ (aE.of cn),k1,gM i _ x cs (List.getElem?_eq_getElem eL) hx k2,fun j u hu=> ?_⟩
 rw[cell_of_row w _ _ cur T (lo,bG) g1,Nat.zero_mul,Nat.zero_add]
 exact k3 j u hu
theorem Ew{E E':Env}{w:World}{H:List U}(hr:HR E w H){r ver i off n ζ:Nat}{ls:List (List UInt8)}{l:List UInt8}(he:H[r]? =some ⟨ver,.aB ls⟩)(hl:ls[i]? =some l)(hle:off+n≤l.length){v:Value}(h:ah E w (.pl r ver i off n) v)(hz:∀b,aE E r ⟨ver,.aB ls⟩ b→E'.aD ζ b):ah E' w (.bs ζ ((l.drop off).take n)) v:=by
 obtain⟨a,c,rfl,h1,h2,h3,h4⟩:=hr.tT he hl hle rfl h
 rw[ah]
 refine⟨a,n,c,rfl,by rw[List.length_take,List.length_drop];omega,h1,h2,h3,fun j x hx=> ?_⟩
 obtain⟨b,h5,h6,h7⟩:=h4 j x hx
 exact⟨b,off,h6,hz b (.inr ⟨rfl,i,h5⟩),h7⟩
theorem Lc{E E':Env}{w:World}{H:List U}(hr:HR E w H){r ver sz j ζ:Nat}{cells cells':List AV}(he:H[r]? =some ⟨ver,.obj cells⟩)(bo:¬E.abs r)(hc:∀cs,aw E w cells cs→aw E' w cells' cs){v:Value}(h:ah E w (.ref r ver sz 0 j) v)(hz:∀b,aE E r ⟨ver,.obj cells⟩ b→E'.aD ζ b):ah E' w (.cp ζ cells' j) v:=by
 simp only[ah] at h⊢
 have hv:=h.2 (hr.ver r _ he).symm
 have cn:bH E r ⟨ver,.obj cells⟩:=⟨rfl,bo⟩
 obtain⟨cur,T,lo,bG,g1,g2,g3,g4⟩:=(hr.bM r _ he cn).aO rfl
 obtain⟨cs,k1,k2,k3⟩:=g4 0 cells rfl
 refine⟨E.ρ r,0,cs,by rw[hv];simp,hz _ (aE.of cn),hc cs k2,fun i u hu=> ?_⟩
 rw[cell_of_row w _ _ cur T (lo,bG) g1]
 have:=k3 i u hu
 simp only[Nat.zero_mul] at this
 exact this
/-! no row, and no zone but 0 -/
mutual
def jj:AV→Prop
 | .any=>True
 | .val v=>True
 | .agg l=>nX l
 | .al l=>nX l
 | .bs z l=>z=0
 | .sl z sz f d l=>z=0∧∀x,nX (f x)
 | .own r ver sz off n=>False
 | .ref r ver sz i j=>False
 | .cp z cells j=>z=0∧nX cells
 | .clo f caps=>nX caps
 | .fI r ver=>False
 | .pl r ver i off n=>False
 | .gU r ver i k=>False
 | .gd φ x=>jj x
def nX:List AV→Prop
 | []=>True
 | x::xs=>jj x∧nX xs
end
mutual
theorem zF{E E':Env}{w:World}(hz:∀b,E.aD 0 b→E'.aD 0 b):∀(x:AV)(v:Value),jj x→ah E w x v→ah E' w x v
 | .any,v,_,h=>by simp only[ah]
 | .val u,v,_,h=>by simp only[ah] at h⊢;exact h
 | .agg l,v,hp,h=>by
  simp only[ah] at h⊢
  obtain⟨cs,h1,h2⟩:=h
  exact⟨cs,h1,ra hz l cs hp h2⟩
 | .al l,v,hp,h=>by
  simp only[ah] at h⊢
  obtain⟨cs,h1,h2⟩:=h
  exact⟨cs,h1,ra hz l cs hp h2⟩
 | .bs z l,v,hp,h=>by
  simp only[jj] at hp
  subst hp
  simp only[ah] at h⊢
  obtain⟨a,n,c,h1,h2,h3,h4,h5,h6⟩:=h
  refine⟨a,n,c,h1,h2,h3,h4,h5,fun i x hx=> ?_⟩
  obtain⟨b,o,g1,g2,g3⟩:=h6 i x hx
  exact⟨b,o,g1,hz b g2,g3⟩
 | .sl z sz f d l,v,hp,h=>by
  simp only[jj] at hp
  obtain⟨rfl,hp⟩:=hp
  simp only[ah] at h⊢
  obtain⟨a,n,c,h1,h2,h3,h4,h5,h6⟩:=h
  refine⟨a,n,c,h1,h2,h3,h4,h5,fun i x hx=> ?_⟩
  obtain⟨b,o,cs,g1,g2,g3,g4,g5⟩:=h6 i x hx
  exact⟨b,o,cs,g1,hz b g2,g3,ra hz (f x) cs (hp x) g4,g5⟩
 | .own r ver sz off n,v,hp,h=>by simp only[jj] at hp
 | .ref r ver sz i j,v,hp,h=>by simp only[jj] at hp
 | .cp z cells j,v,hp,h=>by
  simp only[jj] at hp
  obtain⟨rfl,hp⟩:=hp
  simp only[ah] at h⊢
  obtain⟨b,o,cs,g1,g2,g3,g4⟩:=h
  exact⟨b,o,cs,g1,hz b g2,ra hz cells cs hp g3,g4⟩
 | .clo f caps,v,hp,h=>by
  simp only[jj] at hp
  simp only[ah] at h⊢
  obtain⟨cs,h1,h2⟩:=h
  exact⟨cs,h1,ra hz caps cs hp h2⟩
 | .fI r ver,v,hp,h=>by simp only[jj] at hp
 | .pl r ver i off n,v,hp,h=>by simp only[jj] at hp
 | .gU r ver i k,v,hp,h=>by simp only[jj] at hp
 | .gd φ x,v,hp,h=>by
  simp only[jj] at hp
  simp only[ah] at h⊢
  exact⟨fun q=>zF hz x v hp (h.1 q),h.2⟩
theorem ra{E E':Env}{w:World}(hz:∀b,E.aD 0 b→E'.aD 0 b):∀(xs:List AV)(vs:List Value),nX xs→aw E w xs vs→aw E' w xs vs
 | [],vs,_,h=>by simp only[aw] at h⊢;exact h
 | x::xs,vs,hp,h=>by
  simp only[nX] at hp
  simp only[aw] at h⊢
  obtain⟨v,cQ,h1,h2,h3⟩:=h
  exact⟨v,cQ,h1,zF hz x v hp.1 h2,ra hz xs cQ hp.2 h3⟩
end
/-! CALLS OF FUNCTIONS THAT KEEP OFF ALL ROWS: what is handed in, of whatever zone or row, lies in the zone 1 for them; what comes back lies in the zone 0 -/
structure Cl(E E0:Env)(w:World):Prop where
 zero:∀b,E.aD 0 b→E0.aD 0 b
 one:∀b,b<w.heap.size→E0.aD 1 b
def AH(hg:Nat→Option U)(x y:AV):Prop:=∀(E E0:Env)(H:List U)(w:World)(v:Value),HR E w H→(∀(r:Nat)(e:U),hg r=some e→H[r]? =some e)→Cl E E0 w→ah E w x v→ah E0 w y v
def nY(hg:Nat→Option U)(xs ys:List AV):Prop:=∀(E E0:Env)(H:List U)(w:World)(vs:List Value),HR E w H→(∀(r:Nat)(e:U),hg r=some e→H[r]? =some e)→Cl E E0 w→aw E w xs vs→aw E0 w ys vs
section
variable {hg:Nat→Option U}
theorem nY.nil:nY hg [] []:=fun E E0 H w vs _ _ _ h=>by simp only[aw] at h⊢;exact h
theorem nY.cons{x y:AV}{xs ys:List AV}(h:AH hg x y)(k:nY hg xs ys):nY hg (x::xs) (y::ys):=fun E E0 H w vs hr hh hc hv=>by
 simp only[aw] at hv⊢
 obtain⟨v,cQ,h1,h2,h3⟩:=hv
 exact⟨v,cQ,h1,h E E0 H w v hr hh hc h2,k E E0 H w cQ hr hh hc h3⟩
theorem AH.pr{x:AV}(h:jj x):AH hg x x:=fun E E0 H w v _ _ hc hv=>zF hc.zero x v h hv
theorem AH.val{u:Value}:AH hg (.val u) (.val u):=AH.pr (by simp only[jj])
theorem AH.any{x:AV}:AH hg x .any:=fun E E0 H w v _ _ _ _=>by simp only[ah]
theorem AH.agg{xs ys:List AV}(h:nY hg xs ys):AH hg (.agg xs) (.agg ys):=fun E E0 H w v hr hh hc hv=>by
 simp only[ah] at hv⊢
 obtain⟨cs,h1,h2⟩:=hv
 exact⟨cs,h1,h E E0 H w cs hr hh hc h2⟩
theorem AH.bs{z:Nat}{l:List UInt8}:AH hg (.bs z l) (.bs 1 l):=fun E E0 H w v hr hh hc hv=>by
 simp only[ah] at hv⊢
 obtain⟨a,n,c,h1,h2,h3,h4,h5,h6⟩:=hv
 refine⟨a,n,c,h1,h2,h3,h4,h5,fun i x hx=> ?_⟩
 obtain⟨b,o,g1,g2,g3⟩:=h6 i x hx
 exact⟨b,o,g1,hc.one b (hr.cJ z b g2),g3⟩
theorem AH.nil:AH hg (.val (.slice none 0 0)) (.bs 1 []):=fun E E0 H w v hr hh hc hv=>by
 simp only[ah] at hv⊢
 exact⟨none,0,0,hv,rfl,Nat.le_refl _,Nat.zero_le _,fun _=>rfl,fun i x hx=>by simp at hx⟩
theorem AH.zG{r ver off n:Nat}{l:List UInt8}(he:hg r=some ⟨ver,.bytes l⟩)(hle:off+n≤l.length):AH hg (.own r ver 1 off n) (.bs 1 ((l.drop off).take n)):=fun E E0 H w v hr hh hc hv=>
 Eu hr (hh r _ he) hle hv fun b hb=>hc.one b (hr.blt (hh r _ he) hb)
theorem AH.own{r ver n:Nat}{l:List UInt8}(he:hg r=some ⟨ver,.bytes l⟩)(hn:n=l.length):AH hg (.own r ver 1 0 n) (.bs 1 l):=by
 subst hn
 have h:=AH.zG (off:=0) (n:=l.length) he (by omega)
 rw[List.drop_zero,List.take_length] at h
 exact h
theorem AH.pl{r ver i n:Nat}{ls:List (List UInt8)}{l:List UInt8}(he:hg r=some ⟨ver,.aB ls⟩)(hl:ls[i]? =some l)(hn:n=l.length):AH hg (.pl r ver i 0 n) (.bs 1 l):=by
 subst hn
 intro E E0 H w v hr hh hc hv
 have h:=Ew (ζ:=1) (off:=0) (n:=l.length) hr (hh r _ he) hl (by omega) hv fun b hb=>hc.one b (hr.blt (hh r _ he) hb)
 rw[List.drop_zero,List.take_length] at h
 exact h
theorem AH.s9 {r ver sz n : Nat} {α β : Type} {f : α → List AV} {d : α} {l : List α} {g : β → List AV} {d' : β} {ls : List β} (he : hg r = some ⟨ver, .row sz f d l⟩) (hn : n = l.length) (hl : ls.length = n)
    (gM:∀(i:Nat)(x:α)(y:β),l[i]? =some x→ls[i]? =some y→nY hg (f x) (g y)):AH hg (.own r ver sz 0 n) (.sl 1 sz g d' ls):=fun E E0 H w v hr hh hc hv=>
 Ev hr (hh r _ he) hn hl (fun i x y cs hx hy cq=>gM i x y hx hy E E0 H w cs hr hh hc cq) hv fun b hb=>hc.one b (hr.blt (hh r _ he) hb)
theorem AH.sl {z sz : Nat} {α β : Type} {f : α → List AV} {d : α} {l : List α} {g : β → List AV} {d' : β} {ls : List β} (hl : ls.length = l.length)
    (gM:∀(i:Nat)(x:α)(y:β),l[i]? =some x→ls[i]? =some y→nY hg (f x) (g y)):AH hg (.sl z sz f d l) (.sl 1 sz g d' ls):=fun E E0 H w v hr hh hc hv=>by
 simp only[ah] at hv⊢
 obtain⟨a,n,c,h1,h2,h3,h4,h5,h6⟩:=hv
 refine⟨a,n,c,h1,by omega,h3,h4,h5,fun i y hy=> ?_⟩
 have hi:=(List.getElem?_eq_some_iff.1 hy).1
 obtain⟨b,o,cs,g1,g2,g3,g4,g5⟩:=h6 i l[i] (List.getElem?_eq_getElem (by omega))
 exact⟨b,o,cs,g1,hc.one b (hr.cJ z b g2),g3,gM i _ y (List.getElem?_eq_getElem (by omega)) hy E E0 H w cs hr hh hc g4,g5⟩
end
section
variable {P:Program}
/-! rows that a function has made become the zone 0 -/
def getM:List (Nat×U)→Nat→Option U
 | [],_=>none
 | (q,e)::l,r=>if Nat.beq q r then some e else getM l r
theorem nZ{H:List U}:∀{mk:List (Nat×U)},allM H mk→∀{r:Nat}{e:U},getM mk r=some e→H[r]? =some e
 | [],_,r,e,h=>by simp[getM] at h
 | (q,e0)::mk,ha,r,e,h=>by
  simp only[allM] at ha
  simp only[getM] at h
  split at h
  ·rename_i hq
   obtain rfl:=Nat.eq_of_beq_eq_true hq
   cases h
   rw[←bS];exact ha.1
  ·exact nZ ha.2 h
theorem Ey:∀{mk:List (Nat×U)}{r:Nat}{e:U},getM mk r=some e→r∈bT mk
 | [],r,e,h=>by simp[getM] at h
 | (q,e0)::mk,r,e,h=>by
  simp only[getM] at h
  simp only[bT,List.mem_cons]
  split at h
  ·rename_i hq
   exact .inl (Nat.eq_of_beq_eq_true hq).symm
  ·exact .inr (Ey h)
structure Fz(mk:List (Nat×U))(E E':Env)(w:World):Prop where
 ext:Ext E E' w w
 fz:∀(r:Nat)(e:U)(b:Nat),getM mk r=some e→aE E r e b→E'.aD 0 b
def AF(mk:List (Nat×U))(x y:AV):Prop:=∀(E E':Env)(H:List U)(w:World)(v:Value),HR E w H→allM H mk→Fz mk E E' w→ah E w x v→ah E' w y v
def af(mk:List (Nat×U))(xs ys:List AV):Prop:=∀(E E':Env)(H:List U)(w:World)(vs:List Value),HR E w H→allM H mk→Fz mk E E' w→aw E w xs vs→aw E' w ys vs
section
variable {mk:List (Nat×U)}
theorem af.nil:af mk [] []:=fun E E' H w vs _ _ _ h=>by simp only[aw] at h⊢;exact h
theorem af.cons{x y:AV}{xs ys:List AV}(h:AF mk x y)(k:af mk xs ys):af mk (x::xs) (y::ys):=fun E E' H w vs hr hh hc hv=>by
 simp only[aw] at hv⊢
 obtain⟨v,cQ,h1,h2,h3⟩:=hv
 exact⟨v,cQ,h1,h E E' H w v hr hh hc h2,k E E' H w cQ hr hh hc h3⟩
theorem AF.same{x:AV}:AF mk x x:=fun E E' H w v _ _ hf h=>eF hf.ext x v h
theorem AF.any{x:AV}:AF mk x .any:=fun E E' H w v _ _ _ _=>by simp only[ah]
theorem AF.agg{xs ys:List AV}(h:af mk xs ys):AF mk (.agg xs) (.agg ys):=fun E E' H w v hr hh hc hv=>by
 simp only[ah] at hv⊢
 obtain⟨cs,h1,h2⟩:=hv
 exact⟨cs,h1,h E E' H w cs hr hh hc h2⟩
theorem AF.al{xs ys:List AV}(h:af mk xs ys):AF mk (.al xs) (.al ys):=fun E E' H w v hr hh hc hv=>by
 simp only[ah] at hv⊢
 obtain⟨cs,h1,h2⟩:=hv
 exact⟨cs,h1,h E E' H w cs hr hh hc h2⟩
theorem AF.nil:AF mk (.val (.slice none 0 0)) (.bs 0 []):=fun E E' H w v hr hh hc hv=>by
 simp only[ah] at hv⊢
 exact⟨none,0,0,hv,rfl,Nat.le_refl _,Nat.zero_le _,fun _=>rfl,fun i x hx=>by simp at hx⟩
theorem AF.cF{sz:Nat}{β:Type}{g:β→List AV}{d':β}:AF mk (.val (.slice none 0 0)) (.sl 0 sz g d' []):=fun E E' H w v hr hh hc hv=>by
 simp only[ah] at hv⊢
 exact⟨none,0,0,hv,rfl,Nat.le_refl _,Nat.zero_le _,fun _=>rfl,fun i x hx=>by simp at hx⟩
theorem AF.zG{r ver off n:Nat}{l:List UInt8}(he:getM mk r=some ⟨ver,.bytes l⟩)(hle:off+n≤l.length):AF mk (.own r ver 1 off n) (.bs 0 ((l.drop off).take n)):=fun E E' H w v hr hh hc hv=>
 Eu hr (nZ hh he) hle hv fun b hb=>hc.fz r _ b he hb
theorem AF.own{r ver n:Nat}{l:List UInt8}(he:getM mk r=some ⟨ver,.bytes l⟩)(hn:n=l.length):AF mk (.own r ver 1 0 n) (.bs 0 l):=by
 subst hn
 have h:=AF.zG (off:=0) (n:=l.length) he (by omega)
 rw[List.drop_zero,List.take_length] at h
 exact h
theorem AF.Ld{r ver i off n:Nat}{ls:List (List UInt8)}{l:List UInt8}(he:getM mk r=some ⟨ver,.aB ls⟩)(hl:ls[i]? =some l)(hle:off+n≤l.length):AF mk (.pl r ver i off n) (.bs 0 ((l.drop off).take n)):=fun E E' H w v hr hh hc hv=>
 Ew hr (nZ hh he) hl hle hv fun b hb=>hc.fz r _ b he hb
theorem AF.pl{r ver i n:Nat}{ls:List (List UInt8)}{l:List UInt8}(he:getM mk r=some ⟨ver,.aB ls⟩)(hl:ls[i]? =some l)(hn:n=l.length):AF mk (.pl r ver i 0 n) (.bs 0 l):=by
 subst hn
 have h:=AF.Ld (off:=0) (n:=l.length) he hl (by omega)
 rw[List.drop_zero,List.take_length] at h
 exact h
theorem AF.s9 {r ver sz n : Nat} {α β : Type} {f : α → List AV} {d : α} {l : List α} {g : β → List AV} {d' : β} {ls : List β} (he : getM mk r = some ⟨ver, .row sz f d l⟩) (hn : n = l.length) (hl : ls.length = n)
    (gM:∀(i:Nat)(x:α)(y:β),l[i]? =some x→ls[i]? =some y→af mk (f x) (g y)):AF mk (.own r ver sz 0 n) (.sl 0 sz g d' ls):=fun E E' H w v hr hh hc hv=>
 Ev hr (nZ hh he) hn hl (fun i x y cs hx hy cq=>gM i x y hx hy E E' H w cs hr hh hc cq) hv fun b hb=>hc.fz r _ b he hb
theorem AF.cp{r ver sz j:Nat}{cells cells':List AV}(he:getM mk r=some ⟨ver,.obj cells⟩)(hc:af mk cells cells'):AF mk (.ref r ver sz 0 j) (.cp 0 cells' j):=fun E E' H w v hr hh hf hv=>
 Lc hr (nZ hh he) (fun ha=>by have:=hr.abs r _ (nZ hh he) ha;cases this) (fun cs h=>hc E E' H w cs hr hh hf h) hv fun b hb=>hf.fz r _ b he hb
def BF(mk:List (Nat×U))(b b':Bd):Prop:=b'.live=b.live∧b'.jq=b.jq∧b'.count=b.count∧(∀ls,b'= .aB ls→b= .aB ls)∧
 ∀(E E':Env)(H:List U)(w:World)(k:Nat),HR E w H→allM H mk→Fz mk E E' w→fx E w k b→fx E' w k b'
theorem BF.same{b:Bd}:BF mk b b:=⟨rfl,rfl,rfl,fun _ h=>h,fun E E' H w k _ _ hf h=>h.ext hf.ext rfl⟩
theorem BF.obj{l l':List AV}(hl:l'.length=l.length)(h:af mk l l'):BF mk (.obj l) (.obj l'):=by
 refine⟨rfl,rfl,rfl,(by rintro _ ⟨⟩),fun E E' H w k hr hh hf he=>⟨fun _=> ?_,by rintro _ _ _ ⟨⟩⟩⟩
 obtain⟨cur,T,lo,hi,h1,h2,h3,h4⟩:=he.aO rfl
 refine⟨cur,T,lo,hi,h1,h2,by simp only[Bd.count,Bd.sz,hl] at h3⊢;exact h3,fun i ys hy=> ?_⟩
 simp only[Bd.at] at hy
 split at hy
 ·rename_i eL
  cases hy
  obtain⟨cs,k1,k2,k3⟩:=h4 i l (by simp[Bd.at,eL])
  simp only[Bd.sz,hl] at k1 k3⊢
  exact⟨cs,k1,h E E' H w cs hr hh hf k2,k3⟩
 ·cases hy
theorem BF.row {sz : Nat} {α β : Type} {f : α → List AV} {d : α} {l : List α} {g : β → List AV} {d' : β} {ls : List β} (hl : ls.length = l.length)
    (gM:∀(i:Nat)(x:α)(y:β),l[i]? =some x→ls[i]? =some y→af mk (f x) (g y)):BF mk (.row sz f d l) (.row sz g d' ls):=by
 refine⟨rfl,rfl,hl,(by rintro _ ⟨⟩),fun E E' H w k hr hh hf he=>⟨fun _=> ?_,by rintro _ _ _ ⟨⟩⟩⟩
 obtain⟨cur,T,lo,hi,h1,h2,h3,h4⟩:=he.aO rfl
 refine⟨cur,T,lo,hi,h1,h2,by simp only[Bd.count,Bd.sz,hl] at h3⊢;exact h3,fun i ys hy=> ?_⟩
 simp only[Bd.at] at hy
 obtain⟨y,gI,rfl⟩:=Option.map_eq_some_iff.1 hy
 have eL:i<l.length:=by have:=(List.getElem?_eq_some_iff.1 gI).1;omega
 obtain⟨cs,k1,k2,k3⟩:=h4 i (f l[i]) (by simp only[Bd.at];rw[List.getElem?_eq_getElem eL];rfl)
 exact⟨cs,k1,gM i _ y (List.getElem?_eq_getElem eL) gI E E' H w cs hr hh hf k2,k3⟩
def n0(mk:List (Nat×U)):List U→List U→Prop
 | [],[]=>True
 | e::l,e'::l'=>e'.ver=e.ver∧BF mk e.bd e'.bd∧n0 mk l l'
 | _,_=>False
theorem n0.get:∀{l l':List U},n0 mk l l'→l'.length=l.length∧∀(r:Nat)(e':U),l'[r]? =some e'→∃e,l[r]? =some e∧e'.ver=e.ver∧BF mk e.bd e'.bd
 | [],[],_=>⟨rfl,fun r e' h=>by simp at h⟩
 | e::l,e'::l',h=>by
  simp only[n0] at h
  obtain⟨h1,h2,h3⟩:=h
  obtain⟨g1,g2⟩:=n0.get h3
  refine⟨by simp[g1],fun r x hx=> ?_⟩
  cases r with
  | zero=>simp only[List.getElem?_cons_zero,Option.some.injEq] at hx;subst hx;exact⟨e,rfl,h1,h2⟩
  | succ r=>simpa using g2 r x (by simpa using hx)
 | [],_::_,h=>by simp only[n0] at h
 | _::_,[],h=>by simp only[n0] at h
end
theorem br{f:FuncId}{args:List AV}{H0:List U}{X X':AV}{rows rows':List U}{mk:List (Nat×U)}(S:Spec P f args H0 (ak X rows mk))(iP:ef rows.length mk)(hX:AF mk X X')(hR:n0 mk rows rows'):Spec P f args H0 (ak X' rows' []):=by
 intro w E cargs hr cr
 refine Calls.mono (S w E cargs hr cr) fun e w'⟨v,x,H1,E1,he,lJ,hv,cG,X1,mA,uC,nH,c9⟩=> ?_
 obtain⟨tl,rfl,rfl,iZ⟩:=lJ
 obtain⟨hlen,aL⟩:=hR.get
 have lQ:∀{q:Nat}{e:U},getM mk q=some e→(rows++tl)[q]? =some e∧rows.length≤q:=fun{q e} h=>⟨nZ iZ h,C2 iP q (Ey h)⟩
 obtain⟨E',aR⟩:∃E':Env,E'={E1 with aD:=fun z b=>E1.aD z b∨(z=0∧∃q e,getM mk q=some e∧aE E1 q e b)}:=⟨_,rfl⟩
 have Xt:Ext E1 E' w' w':=by
  subst aR
  exact⟨fun _=>Nat.le_refl _,fun _ _=>rfl,fun _ _=>Iff.rfl,fun z b h=> .inl h,fun _ _ _=>rfl,fun k cur T fz h=>⟨cur,T,fz,h,Nat.le_refl _⟩,fun _ _ _ _ h=>h⟩
 have F:Fz mk E1 E' w':=⟨Xt,fun r e b h hb=>by subst aR;exact .inr ⟨rfl,r,e,h,hb⟩⟩
 obtain⟨H',eS⟩:∃H':List U,H'=rows'++tl.map fun e=>⟨e.ver,.dead⟩:=⟨_,rfl⟩
 have get:∀(r:Nat)(e:U),H'[r]? =some e→∃e0:U,(rows++tl)[r]? =some e0∧e.ver=e0.ver∧((r<rows.length∧BF mk e0.bd e.bd)∨e=⟨e0.ver,.dead⟩):=by
  intro r e h
  rw[eS,List.getElem?_append] at h
  split at h
  ·rename_i ai
   obtain⟨e0,h1,h2,h3⟩:=aL r e h
   exact⟨e0,by rw[List.getElem?_append_left (by omega)];exact h1,h2,.inl ⟨by omega,h3⟩⟩
  ·rename_i P9
   rw[List.getElem?_map,Option.map_eq_some_iff] at h
   obtain⟨e0,h1,rfl⟩:=h
   exact⟨e0,by rw[List.getElem?_append_right (by omega),←hlen];exact h1,rfl,.inr rfl⟩
 have hblk:∀(r:Nat)(e:U)(b:Nat),H'[r]? =some e→aE E' r e b→∃e0:U,(rows++tl)[r]? =some e0∧aE E1 r e0 b∧r<rows.length∧BF mk e0.bd e.bd:=by
  intro r e b h hb
  obtain⟨e0,h1,h2,h3⟩:=get r e h
  rcases h3 with⟨h4,h3⟩ | rfl
  ·refine⟨e0,h1,?_,h4,h3⟩
   obtain⟨g1,g2,_⟩:=h3
   rcases hb with⟨⟨q1,q2⟩,q3⟩ | ⟨q1,i,q2⟩
   ·exact .inl ⟨⟨g1▸q1,by subst aR;exact q2⟩,by subst aR;exact q3⟩
   ·exact .inr ⟨g2▸q1,i,by subst aR;exact q2⟩
  ·exact absurd hb aE.dead
 have iM:∀(r r':Nat)(e e':U)(b:Nat),(rows++tl)[r]? =some e→(rows++tl)[r']? =some e'→aE E1 r e b→aE E1 r' e' b→r=r':=cG.inj
 refine⟨v,X',H',E',he,⟨tl.map fun e=>⟨e.ver,.dead⟩,rfl,eS,trivial⟩,hX E1 E' _ w' v cG iZ F hv,?_,X1.trans Xt,fun z b h=> ?_,?_,fun r e b h hb=> ?_,?_⟩
 ·refine⟨fun r e h=> ?_,fun r e h hl=> ?_,fun r e h ha=> ?_,fun r r' e e' b h h' hl bu=> ?_,fun z b h=> ?_,fun r e b h hl z zH=> ?_,fun r h=> ?_,cG.gl.ext Xt,fun r u ls h=> ?_⟩
  ·obtain⟨e0,h1,h2,_⟩:=get r e h
   rw[h2,←cG.ver r e0 h1];subst aR;rfl
  ·obtain⟨e0,h1,h2,h3⟩:=get r e h
   rcases h3 with⟨h4,g1,g2,g3,g4,g5⟩ | rfl
   ·have gL:bH E1 r e0:=⟨g1▸hl.1,by have:=hl.2;subst aR;exact this⟩
    have:=g5 E1 E' _ w' _ cG iZ F (cG.bM r e0 h1 gL)
    rw[show E'.ρ r=E1.ρ r by subst aR;rfl];exact this
   ·cases hl.1
  ·obtain⟨e0,h1,h2,h3⟩:=get r e h
   rcases h3 with⟨h4,g1,g2,g3,g4,g5⟩ | rfl
   ·rw[g3];exact cG.abs r e0 h1 (by subst aR;exact ha)
   ·rfl
  ·obtain⟨e0,h1,h2,_⟩:=hblk r e b h hl
   obtain⟨e1,h3,h4,_⟩:=hblk r' e' b h' bu
   exact iM r r' e0 e1 b h1 h3 h2 h4
  ·subst aR
   rcases h with h | ⟨rfl,q,e,h1,h2⟩
   ·exact cG.cJ z b h
   ·exact cG.blt (lQ h1).1 h2
  ·obtain⟨e0,h1,h2,h3,_⟩:=hblk r e b h hl
   have h0:=cG.dj r e0 b h1 h2
   subst aR
   rcases zH with zH | ⟨rfl,q,e,g1,g2⟩
   ·exact h0 z zH
   ·have:=iM r q e0 e b h1 (lQ g1).1 h2 g2
    have:=(lQ g1).2
    omega
  ·have:=cG.top r (by rw[eS] at h;simp only[List.length_append,List.length_map] at h⊢;omega)
   subst aR;exact this
  ·obtain⟨e0,h1,h2,h3⟩:=get r _ h
   rcases h3 with⟨h4,g1,g2,g3,g4,g5⟩ | h3
   ·have e1:=g4 ls rfl
    have:=cG.aB r e0.ver ls (by rw[h1,←e1])
    subst aR;exact this
   ·cases h3
 ·subst aR
  rcases h with h | ⟨rfl,q,e,g1,g2⟩
  ·exact mA z b h
  ·exact .inr (nH q e b (lQ g1).1 g2)
 ·rw[eS];simp only[List.length_append,List.length_map] at uC⊢;omega
 ·obtain⟨e0,h1,h2,_⟩:=hblk r e b h hb
  exact nH r e0 b h1 h2
 ·refine⟨c9.os,c9.tape,c9.output,c9.size,c9.block,c9.grow,fun r e b h hb=> ?_⟩
  obtain⟨e0,h1,h2,_⟩:=hblk r e b h hb
  exact c9.rows r e0 b h1 h2
end
end Go.Proofs.YtpbpiehcchannaaGreatDoor
namespace Go.Proofs.YtpbpiehcchannaaGreatDoor
open Go.RowKit
set_option linter.unusedVariables false
set_option linter.unusedSimpArgs false
section
variable {P:Program}
def pD(mk:List (Nat×U)):List (Nat×U)→Prop
 | []=>True
 | (q,e)::l=>getM mk q=some e∧pD mk l
theorem pD.get{mk:List (Nat×U)}:∀{l:List (Nat×U)},pD mk l→∀{q:Nat}{e:U},getM l q=some e→getM mk q=some e
 | [],_,q,e,h=>by simp[getM] at h
 | (r,e0)::l,h,q,e,k=>by
  simp only[pD] at h
  simp only[getM] at k
  split at k
  ·rename_i hq
   obtain rfl:=Nat.eq_of_beq_eq_true hq
   cases k
   exact h.1
  ·exact h.2.get k
theorem pD.all{mk:List (Nat×U)}{H:List U}(ha:allM H mk):∀{l:List (Nat×U)},pD mk l→allM H l
 | [],_=>trivial
 | (r,e0)::l,h=>by
  simp only[pD] at h
  exact⟨by rw[bS];exact nZ ha h.1,h.2.all ha⟩
def pE(mk fz:List (Nat×U))(K:List (Nat×U)):List (Nat×U)→Prop
 | []=>True
 | (q,e)::l=>(∃e0,getM mk q=some e0∧e.ver=e0.ver∧BF fz e0.bd e.bd∧getM fz q=none∧getM K q=some e)∧pE mk fz K l
theorem pE.get{mk fz K:List (Nat×U)}:∀{l:List (Nat×U)},pE mk fz K l→∀{q:Nat}{e:U},getM l q=some e→∃e0,getM mk q=some e0∧e.ver=e0.ver∧BF fz e0.bd e.bd∧getM fz q=none
 | [],_,q,e,h=>by simp[getM] at h
 | (r,e0)::l,h,q,e,k=>by
  simp only[pE] at h
  simp only[getM] at k
  split at k
  ·rename_i hq
   obtain rfl:=Nat.eq_of_beq_eq_true hq
   cases k
   obtain⟨e0,h1,h2,h3,h4,_⟩:=h.1
   exact⟨e0,h1,h2,h3,h4⟩
  ·exact h.2.get k
theorem pE.all{mk fz K:List (Nat×U)}{H:List U}(hH:∀(q:Nat)(e e0:U),getM mk q=some e0→getM K q=some e→H[q]? =some e):∀{l:List (Nat×U)},pE mk fz K l→allM H l
 | [],_=>trivial
 | (r,e0)::l,h=>by
  simp only[pE] at h
  obtain⟨e1,h1,_,_,_,h5⟩:=h.1
  exact⟨by rw[bS];exact hH r e0 e1 h1 h5,h.2.all hH⟩
end
end Go.Proofs.YtpbpiehcchannaaGreatDoor
namespace Go.Proofs.YtpbpiehcchannaaGreatDoor
open Go.RowKit
set_option linter.unusedVariables false
set_option linter.unusedSimpArgs false
def vF(q vq p v':Nat):List AV→List AV→Prop
 | [],[]=>True
 | x::xs,y::ys=>(y= .any∨x=y∨(∃sz i j,x= .ref q vq sz i j∧y= .ref p v' sz i j)∨(∃sz o n,x= .own q vq sz o n∧y= .own p v' sz o n))∧vF q vq p v' xs ys
 | _,_=>False
theorem Ez{q vq p v':Nat}:∀{xs ys:List AV},vF q vq p v' xs ys→xs.length=ys.length∧∀(i:Nat) y,ys[i]? =some y→y= .any∨∃x,xs[i]? =some x∧(x=y∨(∃sz i j,x= .ref q vq sz i j∧y= .ref p v' sz i j)∨(∃sz o n,x= .own q vq sz o n∧y= .own p v' sz o n))
 | [],[],_=>⟨rfl,by simp⟩
 | [],_::_,h=>h.elim
 | _::_,[],h=>h.elim
 | x::xs,y::ys,h=>by
  obtain⟨h1,h2⟩:=Ez h.2
  refine⟨by simp[h1],fun i z hz=> ?_⟩
  cases i with
  | zero=>
   simp at hz;subst hz
   rcases h.1 with h | h | h
   ·exact .inl h
   ·exact .inr ⟨x,rfl,.inl h⟩
   ·exact .inr ⟨x,rfl,.inr h⟩
  | succ i=>simpa using h2 i z (by simpa using hz)
theorem EA{s:St}{t':List AV}(q p v':Nat){e:U}{vq:Nat}{bd:Bd}(hq:aT s.H q=some ⟨vq,bd⟩)(hp:aT s.H p=some e)(aF:Nat.beq p q=false)(hv:e.ver<v')(hb:bd.jq=false)(ht:vF q vq p v' s.t t'):gK s ⟨t',aH (aH s.H q ⟨vq,.dead⟩) p ⟨v',bd⟩⟩:=by
 intro w0 keep E a w hR
 have Qa:p≠q:=fun h=>by rw[h,Nat.beq_refl] at aF;cases aF
 rw[bS] at hq hp
 obtain⟨h1,h2⟩:=Ez ht
 have dG:=(List.getElem?_eq_some_iff.1 hp).1
 have zI:=(List.getElem?_eq_some_iff.1 hq).1
 have Qb:=hR.hr.ver p e hp
 have zJ:E.ver q=vq:=hR.hr.ver q _ hq
 obtain⟨E',aR⟩:∃E':Env,E'={E with ρ:=fun k=>if k=p then E.ρ q else E.ρ k,ver:=fun k=>if k=p then v' else E.ver k,abs:=fun k=>if k=p then E.abs q else E.abs k}:=⟨_,rfl⟩
 have ev:E'.ver p=v':=by subst aR;simp
 have ky:∀k,k≠p→E'.ver k=E.ver k:=by intro k hk;subst aR;simp[hk]
 have ea:E'.abs p↔E.abs q:=by subst aR;simp
 have iX:∀k,k≠p→(E'.abs k↔E.abs k):=by intro k hk;subst aR;simp[hk]
 have er:E'.ρ p=E.ρ q:=by subst aR;simp
 have zK:∀k,k≠p→E'.ρ k=E.ρ k:=by intro k hk;subst aR;simp[hk]
 have ez:∀z b,E'.aD z b↔E.aD z b:=by intro z b;subst aR;exact Iff.rfl
 have zL:E'.pl=E.pl:=by subst aR;rfl
 have X:Ext E E' w w:=by
  refine⟨fun k=> ?_,fun k hk=> ?_,fun k hk=> ?_,fun z b h=>(ez z b).2 h,fun _ _ _=>rfl,fun k cur T fz h=>⟨cur,T,fz,h,Nat.le_refl _⟩,fun _ _ _ _ h=>by rw[zL];exact h⟩
  ·by_cases h:k=p
   ·subst h;omega
   ·rw[ky k h];exact Nat.le_refl _
  ·by_cases h:k=p
   ·subst h;omega
   ·exact zK k h
  ·by_cases h:k=p
   ·subst h;omega
   ·exact iX k h
 have hlen:(aH (aH s.H q ⟨vq,.dead⟩) p ⟨v',bd⟩).length=s.H.length:=by rw[bI,List.length_set,bI,List.length_set]
 have aL:∀(k:Nat)(e':U),(aH (aH s.H q ⟨vq,.dead⟩) p ⟨v',bd⟩)[k]? =some e'→(k=p∧e'=⟨v',bd⟩)∨(k≠p∧k=q∧e'=⟨vq,.dead⟩)∨(k≠p∧k≠q∧s.H[k]? =some e'):=by
  intro k e' h
  rw[bI,List.getElem?_set] at h
  by_cases h1:p=k
  ·subst h1
   rw[if_pos rfl,if_pos (by rw[bI,List.length_set];exact dG)] at h
   exact .inl ⟨rfl,(Option.some.inj h).symm⟩
  ·rw[if_neg h1,bI,List.getElem?_set] at h
   by_cases h2:q=k
   ·subst h2
    rw[if_pos rfl,if_pos zI] at h
    exact .inr (.inl ⟨Ne.symm h1,rfl,(Option.some.inj h).symm⟩)
   ·rw[if_neg h2] at h
    exact .inr (.inr ⟨Ne.symm h1,Ne.symm h2,h⟩)
 have cn:∀(k:Nat)(e':U),(aH (aH s.H q ⟨vq,.dead⟩) p ⟨v',bd⟩)[k]? =some e'→bH E' k e'→(k=p∧e'=⟨v',bd⟩∧bH E q ⟨vq,bd⟩)∨(k≠p∧k≠q∧s.H[k]? =some e'∧bH E k e'):=by
  intro k e' h hl
  rcases aL k e' h with⟨rfl,rfl⟩ | ⟨q1,rfl,rfl⟩ | ⟨q1,q2,q3⟩
  ·exact .inl ⟨rfl,rfl,hl.1,fun h=>hl.2 (ea.2 h)⟩
  ·cases hl.1
  ·exact .inr ⟨q1,q2,q3,hl.1,fun h=>hl.2 ((iX k q1).2 h)⟩
 have hblk:∀(k:Nat)(e':U)(b:Nat),(aH (aH s.H q ⟨vq,.dead⟩) p ⟨v',bd⟩)[k]? =some e'→aE E' k e' b→(k=p∧aE E q ⟨vq,bd⟩ b)∨(k≠p∧k≠q∧s.H[k]? =some e'∧aE E k e' b):=by
  intro k e' b h gP
  rcases gP with⟨hl,h3⟩ | ⟨h3,h4⟩
  ·rcases cn k e' h hl with⟨rfl,rfl,q3⟩ | ⟨q1,q2,q3,q4⟩
   ·exact .inl ⟨rfl,.inl ⟨q3,by rwa [er] at h3⟩⟩
   ·exact .inr ⟨q1,q2,q3,.inl ⟨q4,by rwa [zK k q1] at h3⟩⟩
  ·rcases aL k e' h with⟨rfl,rfl⟩ | ⟨q1,rfl,rfl⟩ | ⟨q1,q2,q3⟩
   ·rw[show(⟨v',bd⟩:U).bd.jq=bd.jq from rfl,hb] at h3;cases h3
   ·cases h3
   ·exact .inr ⟨q1,q2,q3,.inr ⟨h3,by rw[zL] at h4;exact h4⟩⟩
 refine⟨E',⟨by rw[←h1];exact hR.len,fun i y hy=> ?_,⟨hR.defers.1,hR.defers.2.ext X⟩,⟨?_,?_,?_,?_,?_,?_,?_,hR.hr.gl.ext X,?_⟩,⟨hR.fr.os,hR.fr.tape,hR.fr.output,hR.fr.size,hR.fr.block,hR.fr.grow,?_⟩,hR.ext.trans X,fun z b h=>hR.aD z b ((ez z b).1 h),?_⟩⟩
 ·rcases h2 i y hy with rfl | ⟨x,hx,rfl | ⟨sz,i0,j0,rfl,rfl⟩ | ⟨sz,o,n,rfl,rfl⟩⟩
  ·simp only[ah]
  ·exact eF X _ _ (hR.tmps i _ hx)
  ·have h0:=hR.tmps i _ hx
   rw[ah] at h0⊢
   refine⟨by omega,fun _=> ?_⟩
   rw[er]
   exact h0.2 zJ.symm
  ·have h0:=hR.tmps i _ hx
   rw[ah] at h0⊢
   refine⟨by omega,fun _=> ?_⟩
   rw[er,ea]
   exact h0.2 zJ.symm
 ·intro k e' h
  rcases aL k e' h with⟨rfl,rfl⟩ | ⟨q1,rfl,rfl⟩ | ⟨q1,q2,q3⟩
  ·exact ev
  ·rw[ky k q1];exact zJ
  ·rw[ky k q1];exact hR.hr.ver k e' q3
 ·intro k e' h hl
  rcases cn k e' h hl with⟨rfl,rfl,q3⟩ | ⟨q1,q2,q3,q4⟩
  ·rw[er];exact(hR.hr.bM q _ hq q3).ext X rfl
  ·rw[zK k q1];exact(hR.hr.bM k e' q3 q4).ext X rfl
 ·intro k e' h ha
  rcases aL k e' h with⟨rfl,rfl⟩ | ⟨q1,rfl,rfl⟩ | ⟨q1,q2,q3⟩
  ·exact hR.hr.abs q ⟨vq,bd⟩ hq (ea.1 ha)
  ·rfl
  ·exact hR.hr.abs k e' q3 ((iX k q1).1 ha)
 ·intro k k' e1 e2 b h h' hl bu
  rcases hblk k e1 b h hl with⟨q1,q2⟩ | ⟨q1,q2,q3,q4⟩<;>rcases hblk k' e2 b h' bu with⟨r1,r2⟩ | ⟨r1,r2,r3,r4⟩
  ·rw[q1,r1]
  ·exact absurd (hR.hr.inj q k' _ e2 b hq r3 q2 r4) (Ne.symm r2)
  ·exact absurd (hR.hr.inj k q e1 _ b q3 hq q4 r2) q2
  ·exact hR.hr.inj k k' e1 e2 b q3 r3 q4 r4
 ·exact fun z b h=>hR.hr.cJ z b ((ez z b).1 h)
 ·intro k e' b h hl z hz
  rcases hblk k e' b h hl with⟨q1,q2⟩ | ⟨q1,q2,q3,q4⟩
  ·exact hR.hr.dj q _ b hq q2 z ((ez z _).1 hz)
  ·exact hR.hr.dj k e' b q3 q4 z ((ez z _).1 hz)
 ·intro k hk
  rw[hlen] at hk
  have aF:k≠p:=by omega
  rw[ky k aF,iX k aF]
  exact hR.hr.top k hk
 ·intro k v ls h
  rcases aL k _ h with⟨rfl,h1⟩ | ⟨q1,rfl,h1⟩ | ⟨q1,q2,q3⟩
  ·obtain⟨rfl,rfl⟩:=U.mk.inj h1;cases hb
  ·cases h1
  ·have:=hR.hr.aB k v ls q3
   rw[zL];exact this
 ·intro k e' b h hl ai
  rcases hblk k e' b h hl with⟨q1,q2⟩ | ⟨q1,q2,q3,q4⟩
  ·exact hR.fr.rows q _ b hq q2 ai
  ·exact hR.fr.rows k e' b q3 q4 ai
 ·intro k e' b h hl
  rcases hblk k e' b h hl with⟨q1,q2⟩ | ⟨q1,q2,q3,q4⟩
  ·exact hR.rows q _ b hq q2
  ·exact hR.rows k e' b q3 q4
theorem vG{σ:Type}{Inv:σ→Prop}{μ:σ→Nat}{p:Nat}{as:List Nat}{ts:σ→List (Nat×AV)}{hs:σ→List (Nat×U)}{t:List AV}{H:List U}{x:{y:σ×(Nat→Nat)//Inv y.1}}{Q:Ex→St→Prop}{s s':St}(h:gK s s')(k:qD μ p as ts hs t H x Q .normal s'):qD μ p as ts hs t H x Q .normal s:=by
 obtain⟨y,h1,h2⟩:=k
 exact⟨y,oQ h h1,h2⟩
end Go.Proofs.YtpbpiehcchannaaGreatDoor
namespace Go.Proofs.YtpbpiehcchannaaGreatDoor
open Go.RowKit
set_option linter.unusedVariables false
set_option linter.unusedSimpArgs false
theorem zM{q vq p v' sz o n:Nat}:∀{t:List AV}{k:Nat},t[k]? =some (.own q vq sz o n)→vF q vq p v' t (aH t k (.own p v' sz o n))
 | [],k,h=>by simp at h
 | x::t,0,h=>by
  obtain rfl:x= .own q vq sz o n:=by simpa using h
  refine⟨.inr (.inr (.inr ⟨sz,o,n,rfl,rfl⟩)),?_⟩
  clear h
  induction t with
  | nil=>trivial
  | cons y t ih=>exact⟨.inr (.inl rfl),ih⟩
 | x::t,k+1,h=>⟨.inr (.inl rfl),zM (t:=t) (k:=k) (by simpa using h)⟩
theorem ta{r v':Nat}(sz:Nat):∀{t:List AV}{k:Nat},t[k]? =some (.val (.slice none 0 0))→iz r v' t (aH t k (.own r v' sz 0 0))
 | [],k,h=>by simp at h
 | x::t,0,h=>by
  obtain rfl:x= .val (.slice none 0 0):=by simpa using h
  exact⟨.inr (.inr ⟨sz,rfl,rfl⟩),sX r v' t⟩
 | x::t,k+1,h=>⟨.inr (.inl rfl),ta sz (t:=t) (k:=k) (by simpa using h)⟩
theorem EB{id:Nat}{Q:Ex→St→Prop}{s:St}(h:Q .normal s):qm id Q .normal s:=h
theorem EC{s:St}(r q:Nat){er:U}{vq:Nat}{bq bq':Bd}(hr:aT s.H r=some er)(hq:aT s.H q=some ⟨vq,bq⟩)(aF:Nat.beq q r=false)(hb:BF [(r,er)] bq bq'):gK s ⟨s.t,aH (aH s.H q ⟨vq,bq'⟩) r ⟨er.ver,.dead⟩⟩:=by
 intro w0 keep E a w hR
 have vi:q≠r:=fun h=>by rw[h,Nat.beq_refl] at aF;cases aF
 rw[bS] at hq hr
 have cY:=(List.getElem?_eq_some_iff.1 hr).1
 have zI:=(List.getElem?_eq_some_iff.1 hq).1
 have iZ:allM s.H [(r,er)]:=⟨by rw[bS];exact hr,trivial⟩
 obtain⟨E',aR⟩:∃E':Env,E'={E with aD:=fun z b=>E.aD z b∨(z=0∧aE E r er b)}:=⟨_,rfl⟩
 have X:Ext E E' w w:=by
  subst aR
  exact⟨fun _=>Nat.le_refl _,fun _ _=>rfl,fun _ _=>Iff.rfl,fun z b h=> .inl h,fun _ _ _=>rfl,fun k cur T fz h=>⟨cur,T,fz,h,Nat.le_refl _⟩,fun _ _ _ _ h=>h⟩
 have F:Fz [(r,er)] E E' w:=⟨X,fun q' e b h hb=>by
  unfold getM at h
  split at h
  ·rename_i sK
   obtain rfl:=Nat.eq_of_beq_eq_true sK
   obtain rfl:=Option.some.inj h
   subst aR;exact .inr ⟨rfl,hb⟩
  ·cases h⟩
 obtain⟨g1,g2,g3,g4,g5⟩:=hb
 have hlen:(aH (aH s.H q ⟨vq,bq'⟩) r ⟨er.ver,.dead⟩).length=s.H.length:=by rw[bI,List.length_set,bI,List.length_set]
 have aL:∀(k:Nat)(e':U),(aH (aH s.H q ⟨vq,bq'⟩) r ⟨er.ver,.dead⟩)[k]? =some e'→(k=r∧e'=⟨er.ver,.dead⟩)∨(k≠r∧k=q∧e'=⟨vq,bq'⟩)∨(k≠r∧k≠q∧s.H[k]? =some e'):=by
  intro k e' h
  rw[bI,List.getElem?_set] at h
  by_cases h1:r=k
  ·subst h1
   rw[if_pos rfl,if_pos (by rw[bI,List.length_set];exact cY)] at h
   exact .inl ⟨rfl,(Option.some.inj h).symm⟩
  ·rw[if_neg h1,bI,List.getElem?_set] at h
   by_cases h2:q=k
   ·subst h2
    rw[if_pos rfl,if_pos zI] at h
    exact .inr (.inl ⟨Ne.symm h1,rfl,(Option.some.inj h).symm⟩)
   ·rw[if_neg h2] at h
    exact .inr (.inr ⟨Ne.symm h1,Ne.symm h2,h⟩)
 have hblk:∀(k:Nat)(e':U)(b:Nat),(aH (aH s.H q ⟨vq,bq'⟩) r ⟨er.ver,.dead⟩)[k]? =some e'→aE E' k e' b→k≠r∧∃e0:U,s.H[k]? =some e0∧aE E k e0 b:=by
  intro k e' b h gP
  rcases aL k e' h with⟨rfl,rfl⟩ | ⟨q1,rfl,rfl⟩ | ⟨q1,q2,q3⟩
  ·exact absurd gP aE.dead
  ·refine⟨q1,_,hq,?_⟩
   rcases gP with⟨⟨h1,h2⟩,h3⟩ | ⟨h1,i,h2⟩
   ·exact .inl ⟨⟨g1▸h1,by subst aR;exact h2⟩,by subst aR;exact h3⟩
   ·exact .inr ⟨g2▸h1,i,by subst aR;exact h2⟩
  ·refine⟨q1,e',q3,?_⟩
   rcases gP with⟨⟨h1,h2⟩,h3⟩ | ⟨h1,i,h2⟩
   ·exact .inl ⟨⟨h1,by subst aR;exact h2⟩,by subst aR;exact h3⟩
   ·exact .inr ⟨h1,i,by subst aR;exact h2⟩
 refine⟨E',⟨hR.len,fun i y hy=>eF X _ _ (hR.tmps i _ hy),⟨hR.defers.1,hR.defers.2.ext X⟩,⟨?_,?_,?_,?_,?_,?_,?_,hR.hr.gl.ext X,?_⟩,⟨hR.fr.os,hR.fr.tape,hR.fr.output,hR.fr.size,hR.fr.block,hR.fr.grow,?_⟩,hR.ext.trans X,fun z b h=> ?_,?_⟩⟩
 ·intro k e' h
  have hv:E'.ver k=E.ver k:=by subst aR;rfl
  rw[hv]
  rcases aL k e' h with⟨rfl,rfl⟩ | ⟨q1,rfl,rfl⟩ | ⟨q1,q2,q3⟩
  ·exact hR.hr.ver _ er hr
  ·exact hR.hr.ver _ ⟨vq,bq⟩ hq
  ·exact hR.hr.ver k e' q3
 ·intro k e' h hl
  have Le:E'.ρ k=E.ρ k:=by subst aR;rfl
  have lU:¬E.abs k:=by have:=hl.2;subst aR;exact this
  rw[Le]
  rcases aL k e' h with⟨rfl,rfl⟩ | ⟨q1,rfl,rfl⟩ | ⟨q1,q2,q3⟩
  ·cases hl.1
  ·exact g5 E E' _ w _ hR.hr iZ F (hR.hr.bM _ _ hq ⟨g1▸hl.1,lU⟩)
  ·exact(hR.hr.bM k e' q3 ⟨hl.1,lU⟩).ext X rfl
 ·intro k e' h ha
  have EE:E.abs k:=by subst aR;exact ha
  rcases aL k e' h with⟨rfl,rfl⟩ | ⟨q1,rfl,rfl⟩ | ⟨q1,q2,q3⟩
  ·rfl
  ·rw[g3];exact hR.hr.abs _ _ hq EE
  ·exact hR.hr.abs k e' q3 EE
 ·intro k k' e1 e2 b h h' hl bu
  obtain⟨_,a1,a2,a3⟩:=hblk k e1 b h hl
  obtain⟨_,b1,b2,b3⟩:=hblk k' e2 b h' bu
  exact hR.hr.inj k k' a1 b1 b a2 b2 a3 b3
 ·intro z b h
  subst aR
  rcases h with h | ⟨rfl,h⟩
  ·exact hR.hr.cJ z b h
  ·exact hR.hr.blt hr h
 ·intro k e' b h hl z hz
  obtain⟨hk,a1,a2,a3⟩:=hblk k e' b h hl
  have h0:=hR.hr.dj k a1 b a2 a3
  subst aR
  rcases hz with hz | ⟨rfl,hz⟩
  ·exact h0 z hz
  ·exact hk (hR.hr.inj k r a1 er b a2 hr a3 hz)
 ·intro k hk
  rw[hlen] at hk
  have:=hR.hr.top k hk
  subst aR;exact this
 ·intro k v ls h
  have dG:E'.pl=E.pl:=by subst aR;rfl
  rw[dG]
  rcases aL k _ h with⟨rfl,h1⟩ | ⟨q1,rfl,h1⟩ | ⟨q1,q2,q3⟩
  ·cases h1
  ·obtain⟨rfl,rfl⟩:=U.mk.inj h1
   exact hR.hr.aB _ _ ls (by rw[hq,g4 ls rfl])
  ·exact hR.hr.aB k v ls q3
 ·intro k e' b h hl ai
  obtain⟨_,a1,a2,a3⟩:=hblk k e' b h hl
  exact hR.fr.rows k a1 b a2 a3 ai
 ·subst aR
  rcases h with h | ⟨rfl,h⟩
  ·exact hR.aD z b h
  ·exact .inr (hR.rows r er b hr h)
 ·intro k e' b h hl
  obtain⟨_,a1,a2,a3⟩:=hblk k e' b h hl
  exact hR.rows k a1 b a2 a3
end Go.Proofs.YtpbpiehcchannaaGreatDoor
