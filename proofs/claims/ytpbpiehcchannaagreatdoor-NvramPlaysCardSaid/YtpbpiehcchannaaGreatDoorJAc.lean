/- Abstract values: regions that draw, calls. Conditions: none. -/
import Derived.Test.YtpbpiehcchannaaGreatDoorJAb
import Derived.Laws.Externs
import Derived.Laws.AppendOwn
import Derived.Laws.Entries
import Derived.Laws.NewFold
/-! Abstract values: a region that draws its order: one order is enough. Conditions: the premises of 'draw_of'. -/
namespace Go.Proofs.YtpbpiehcchannaaGreatDoor
set_option linter.unusedVariables false
set_option linter.unusedSimpArgs false
open Go.RowKit
structure CE where
 i:Nat
 jT:Bool
 bk:Bool
 hJ:List Nat
def sx(K p d:Nat):Nat:=cond (Nat.ble K d&&Nat.ble (d - K+1) p) (d - K) (p+d)
theorem Ir{K p d:Nat}(h:d<K):sx K p d=p+d:=by
 have:Nat.ble K d=false:=by cases q:Nat.ble K d with | false=>rfl | true=>exact absurd (Nat.le_of_ble_eq_true q) (by omega)
 simp[sx,this]
theorem Is{K p d d0:Nat}(h:p+d=sx K p d0):d=d0:=by
 unfold sx at h
 cases q:(Nat.ble K d0&&Nat.ble (d0 - K+1) p) with
 | false=>rw[q] at h;simp only[cond_false] at h;omega
 | true=>
  rw[q] at h
  rw[Bool.and_eq_true] at q
  have q1:=Nat.le_of_ble_eq_true q.1
  have q2:=Nat.le_of_ble_eq_true q.2
  simp only[cond_true] at h;omega
def oL(p d:Nat):Nat:=sx 10000 p d
theorem uL{p d:Nat}(h:d<10000):oL p d=p+d:=Ir h
theorem It{p d d0:Nat}(h:p+d=oL p d0):d=d0:=Is h
def oM(p:Nat)(c:CE)(H:List U):Nat→Option U:=match c.jT with
 | true=>fun r=>if(c.hJ.map (oL p)).contains r then none else aT H r
 | false=>fun r=>if(c.hJ.map (oL p)).contains r then aT H r else none
theorem uM{p:Nat}{c:CE}{H:List U}{r:Nat}{e:U}(h:oM p c H r=some e):(c.jT=true∧(∀d∈c.hJ,r≠oL p d)∨c.jT=false∧∃d∈c.hJ,r=oL p d)∧H[r]? =some e:=by
 unfold oM at h
 cases hs:c.jT with
 | true=>
  simp only[hs] at h
  split at h
  ·cases h
  ·rename_i hc
   rw[bS] at h
   refine⟨.inl ⟨rfl,fun d hd he=>hc ?_⟩,h⟩
   simp only[List.contains_iff_mem,List.mem_map]
   exact⟨d,hd,he.symm⟩
 | false=>
  simp only[hs] at h
  split at h
  ·rename_i hc
   rw[bS] at h
   simp only[List.contains_iff_mem,List.mem_map] at hc
   obtain⟨d,hd,he⟩:=hc
   exact⟨.inr ⟨rfl,d,hd,he.symm⟩,h⟩
  ·cases h
def oN(tb:TypeId→Option TI)(P:Program)(p:Nat)(ops:Array Oper):List CE→(St→Prop)→St→Prop
 | [],K,s=>K s
 | c::cs,K,s=>match oz ops.toList c.i with
  | none=>False
  | some o=>yb tb P p ops.toList (oM p c s.H) c.bk o s (oN tb P p ops cs K)
def bN(ops:Array Oper)(i:Nat):Option Tmp:=(ops[i]?).bind (·.dst)
def dD(B:List Nat)(i j:Nat):Bool:=(B.getD i 0).testBit j
def jU(ops:Array Oper)(i:Nat):Bool:=match ops[i]? with
 | some o=>lK o
 | none=>false
def uN(R:CE→CE→Bool):List CE→Bool
 | []=>true
 | c::cs=>cs.all (R c)&&uN R cs
def yd(ops:Array Oper)(nt:Nat)(B:List Nat)(cs:List CE):Bool:=
 (List.range ops.size).all (fun i=>cs.any (fun c=>c.i==i))&&cs.all (fun c=>decide (c.i<ops.size))&&
 uN (fun a b=>a.i !=b.i&& !dD B a.i b.i&&(!jU ops a.i||dD B b.i a.i)) cs&&
 (List.range ops.size).all (fun i=>(List.range ops.size).all fun j=> !dD B i j||(match ops[i]? with | none=>false | some o=>o.after.any fun e=>Region.binds .any e&&(e.on==j||dD B e.on j)))&&
 Iu .any ops&&Iv ops nt&&
 (List.range ops.size).all (fun i=>match ops[i]? with | none=>true | some o=>(jx ops o).all fun k=>(List.range ops.size).all fun j=>bN ops j !=some k||dD B i j||dD B j i)&&
 cs.all (fun a=> !a.bk||(a.jT&&cs.all fun b=>b.i==a.i|| !b.jT||dD B b.i a.i||dD B a.i b.i))&&
 cs.all (fun a=> !a.jT||(List.range ops.size).all fun j=>j==a.i||dD B a.i j||(match bN ops j with | none=>true | some d=>a.hJ.contains d))&&
 cs.all (fun a=>a.jT||a.hJ.all fun d=>bN ops a.i==some d||((List.range ops.size).all (fun j=>bN ops j !=some d||dD B a.i j)&&cs.all fun b=>b.i==a.i|| !b.bk||dD B b.i a.i||dD B a.i b.i||b.hJ.contains d))&&decide (nt≤10000)
def fQ(own:Option Nat)(bk:Bool)(us:Us):Us:=if bk then us else us.filter (fun q=>own==some q.1)
theorem qv{V:Nat→Option U}{bk:Bool}{own:Option Nat}:∀{us:Us}{H:List U},kr V bk own us→(∀r e,own≠some r→V r=some e→H[r]? =some e)→aK H us=aK H (fQ own bk us)
 | [],H,_,_=>by unfold fQ;split<;>rfl
 | (r,e)::us,H,eJ,hV=>by
  unfold fQ
  cases bk with
  | true=>rfl
  | false=>
   simp only[Bool.false_eq_true,if_false,List.filter_cons]
   by_cases ho:own=some r
   ·simp only[ho,beq_self_eq_true,if_true,aK,bI]
    have:=qv (us:=us) (H:=H.set r e) eJ.2 (fun r' e' h1 h2=>by
     rw[List.getElem?_set_ne (fun h=>h1 (by rw[ho,h]))];exact hV r' e' h1 h2)
    unfold fQ at this
    rw[this,ho];rfl
   ·have aF:(own==some r)=false:=by simpa using ho
    simp only[aF,Bool.false_eq_true,if_false,aK,bI]
    have he:=hV r e ho (eJ.1.resolve_left ho)
    have jy:H.set r e=H:=by
     apply List.ext_getElem?
     intro k
     by_cases hk:r=k
     ·subst hk;rw[List.getElem?_set_self (List.getElem?_eq_some_iff.1 he).1,he]
     ·rw[List.getElem?_set_ne hk]
    rw[jy]
    have:=qv (us:=us) (H:=H) eJ.2 hV
    unfold fQ at this
    rw[this];rfl
theorem ye{V:Nat→Option U}{bk:Bool}{own:Option Nat}:∀{us:Us},kr V bk own us→∀r,ed (fQ own bk us) r≠none→own=some r∨(bk=true∧V r≠none)
 | [],_,r,h=>by unfold fQ at h;split at h<;>simp[ed] at h
 | (q,e)::us,eJ,r,h=>by
  have ih:=ye (us:=us) eJ.2 r
  unfold fQ at h ih
  cases bk with
  | true=>
   simp only[if_true,ed] at h ih
   by_cases hl:ed us r=none
   ·simp only[hl] at h
    by_cases hq:q=r
    ·subst hq;exact(eJ.1).imp id fun h=>⟨rfl,h⟩
    ·simp[hq] at h
   ·simpa using ih hl
  | false=>
   simp only[Bool.false_eq_true,if_false,List.filter_cons] at h ih
   by_cases ho:own=some q
   ·simp only[ho,beq_self_eq_true,if_true,ed] at h ih
    by_cases hl:ed (us.filter fun x=>some q==some x.1) r=none
    ·simp only[hl] at h
     by_cases hq:q=r
     ·left;rw[ho,hq]
     ·simp[hq] at h
    ·rw[ho];simpa using ih hl
   ·have aF:(own==some q)=false:=by simpa using ho
    simp only[aF,Bool.false_eq_true,if_false] at h
    simpa using ih h
theorem sy(dst:Nat→Option Tmp)(L:Nat→Bool):∀(a b:Tr)(s:St),bJ dst L (a++b) s=bJ dst L b (bJ dst L a s)
 | [],b,s=>rfl
 | (i,v,us)::a,b,s=>by simp only[List.cons_append,bJ];exact sy dst L a b _
theorem yf(dst:Nat→Option Tmp){L L':Nat→Bool}:∀{a:Tr}{s:St},(∀y∈a,L y.1=L' y.1)→bJ dst L a s=bJ dst L' a s
 | [],s,_=>rfl
 | (i,v,us)::a,s,h=>by
  simp only[bJ]
  rw[h (i,v,us) (by simp)]
  exact yf dst (fun y hy=>h y (by simp[hy]))
theorem yg(dst:Nat→Option Tmp){L:Nat→Bool}:∀{a:Tr}{s:St},(∀y∈a,L y.1=false)→bJ dst L a s=s
 | [],s,_=>rfl
 | (i,v,us)::a,s,h=>by
  simp only[bJ]
  rw[h (i,v,us) (by simp)]
  exact yg dst (fun y hy=>h y (by simp[hy]))
section
variable {P:Program}
def yh(P:Program)(ops:Array Oper)(p:Nat)(cs:List CE)(s:St)(y:Nat×AV×Us):Prop:=
 ∃c∈cs,∃o,c.i=y.1∧ops[y.1]? =some o∧(∀r,ed y.2.2 r≠none→eW p o.dst=some r∨(c.bk=true∧oM p c s.H r≠none))∧
  (lK o=false→∃sA,kr (oM p c s.H) c.bk (eW p o.dst) sA∧fQ (eW p o.dst) c.bk sA=y.2.2∧qu P ops o s.t (oM p c s.H) (fun v us=>v=y.2.1∧us=sA))
def jV(P:Program)(ops:Array Oper)(p:Nat)(cs:List CE)(s0:St):Tr→Tr→Prop
 | _,[]=>True
 | pre,y::t=>yh P ops p cs (bJ (bN ops) (fun _=>true) pre s0) y∧jV P ops p cs s0 (pre++[y]) t
theorem uO{ops:Array Oper}{p:Nat}{cs:List CE}{s0:St}:∀{a pre b:Tr},jV P ops p cs s0 pre (a++b)↔jV P ops p cs s0 pre a∧jV P ops p cs s0 (pre++a) b
 | [],pre,b=>by simp[jV]
 | y::a,pre,b=>by
  simp only[List.cons_append,jV]
  rw[uO (a:=a) (pre:=pre++[y])]
  simp[and_assoc,List.append_assoc]
theorem Iw{ops:Array Oper}{p:Nat}{cs:List CE}{s0:St}{t1 t2:Tr}{y:Nat×AV×Us}(h:jV P ops p cs s0 [] (t1++y::t2)):yh P ops p cs (bJ (bN ops) (fun _=>true) t1 s0) y:=by
 have:=(uO.1 h).2
 simpa using this.1
theorem saturate {tb : TypeId → Option TI} (aA : cj P tb) {ops : Array Oper} {p : Nat} {cs : List CE} {s0 : St} {K : St → Prop} : ∀ (rest : List CE) (tr : Tr), (∀ c ∈ rest, c ∈ cs) → jV P ops p cs s0 [] tr → oN tb P p ops rest K (bJ (bN ops) (fun _ => true) tr s0) →
    ∃t2 kt,t2.map (·.1)++kt.map (·.i)=rest.map (·.i)∧(∀c∈kt,c∈cs)∧(∀c,kt.head? =some c→jU ops c.i=true)∧jV P ops p cs s0 [] (tr++t2)∧(∀y∈t2,jU ops y.1=false)∧oN tb P p ops kt K (bJ (bN ops) (fun _=>true) (tr++t2) s0)
 | [],tr,_,hT,h=>⟨[],[],rfl,by simp,by simp,by simpa using hT,by simp,by simpa using h⟩
 | c::rest,tr,bV,hT,h=>by
  by_cases hc:jU ops c.i=true
  ·exact⟨[],c::rest,rfl,bV,fun c' h'=>by simp at h';rw[←h'];exact hc,by simpa using hT,by simp,by simpa using h⟩
  ·unfold oN at h
   split at h
   ·exact h.elim
   rename_i o ho
   rw[qd] at ho
   have qw:ops[c.i]? =some o:=by simpa using ho
   have Ix:lK o=false:=by
    simp only[jU,qw] at hc
    simpa using hc
   obtain⟨post,iT,hex,Iy⟩:=Cq aA h
   obtain⟨v,us,rfl⟩:=Iy Ix
   obtain⟨eJ,hK⟩:=iT v us ⟨rfl,rfl⟩
   have hd:bN ops c.i=o.dst:=by simp[bN,qw]
   have heq:(⟨aV (bJ (bN ops) (fun _=>true) tr s0).t o.dst v,aK (bJ (bN ops) (fun _=>true) tr s0).H us⟩:St)=bJ (bN ops) (fun _=>true) (tr++[(c.i,v,fQ (eW p o.dst) c.bk us)]) s0:=by
    rw[sy]
    simp only[bJ,if_true,mD,hd]
    rw[←qv eJ (fun r e _ h=>(uM h).2)]
   rw[heq] at hK
   have bB:jV P ops p cs s0 [] (tr++[(c.i,v,fQ (eW p o.dst) c.bk us)]):=by
    refine uO.2 ⟨hT,?_,trivial⟩
    refine⟨c,bV c (by simp),o,rfl,qw,fun r hr=>ye eJ r hr,fun _=>⟨us,eJ,rfl,?_⟩⟩
    simpa using hex
   obtain⟨t2,kt,h1,h2,h3,h4,h5,h6⟩:=saturate aA rest _ (fun c' h'=>bV c' (by simp[h'])) bB hK
   refine⟨(c.i,v,fQ (eW p o.dst) c.bk us)::t2,kt,by simp[h1],h2,h3,by simpa using h4,fun y hy=> ?_,by simpa using h6⟩
   rcases List.mem_cons.1 hy with rfl | hy
   ·simpa using hc
   ·exact h5 y hy
theorem Rel.drew{w0:World}{keep:Bs}{E:Env}{s:St}{a:Act}{w:World}(h:Rel w0 keep E s a w):Rel w0 keep E s a w.drew:=by
 have X:Ext E E w w.drew:=⟨fun _=>Nat.le_refl _,fun _ _=>rfl,fun _ _=>Iff.rfl,fun _ _ h=>h,fun _ _ _=>rfl,fun _ cur T fz h=>⟨cur,T,fz,h,Nat.le_refl _⟩,fun _ _ _ _ h=>h⟩
 exact⟨h.len,fun i x hx=>eF X x _ (h.tmps i x hx),⟨h.defers.1,h.defers.2.ext X⟩,h.hr.drew,⟨h.fr.os,h.fr.tape,h.fr.output,h.fr.size,h.fr.block,h.fr.grow,h.fr.rows⟩,h.ext.trans X,h.aD,h.rows⟩
end
end Go.Proofs.YtpbpiehcchannaaGreatDoor

/-! Abstract values: a region that draws its order: one order is enough. Conditions: the premises of 'draw_of'. -/
namespace Go.Proofs.YtpbpiehcchannaaGreatDoor
set_option linter.unusedVariables false
set_option linter.unusedSimpArgs false
open Go.RowKit
section
variable {P:Program}
structure sB(ops:Array Oper)(nt:Nat)(B:List Nat)(cs:List CE):Prop where
 cover:∀i,i<ops.size→∃c∈cs,c.i=i
 range:∀c∈cs,c.i<ops.size
 pair:∀l1 a l2 b l3,cs=l1++a::(l2++b::l3)→a.i≠b.i∧dD B a.i b.i=false∧(jU ops a.i=true→dD B b.i a.i=true)
 uP:∀i j o,ops[i]? =some o→j<ops.size→dD B i j=true→∃e∈o.after,Region.binds .any e=true∧(e.on=j∨dD B e.on j=true)
 back:∀i o,ops[i]? =some o→∀e∈o.after,Region.binds .any e=true→e.on<i
 uQ:∀i d,bN ops i=some d→d<nt
 yi:∀i j d,bN ops i=some d→bN ops j=some d→i=j
 look:∀i o,ops[i]? =some o→∀k∈jx ops o,∀j,bN ops j=some k→dD B i j=true∨dD B j i=true
 bk:∀a∈cs,a.bk=true→a.jT=true∧∀b∈cs,b.i≠a.i→b.jT=true→dD B b.i a.i=true∨dD B a.i b.i=true
 hJ:∀a∈cs,a.jT=true→∀j d,bN ops j=some d→j≠a.i→dD B a.i j=true∨d∈a.hJ
 own:∀a∈cs,a.jT=false→∀d∈a.hJ,bN ops a.i=some d∨((∀j,bN ops j=some d→dD B a.i j=true)∧∀b∈cs,b.i≠a.i→b.bk=true→dD B b.i a.i=true∨dD B a.i b.i=true∨d∈b.hJ)
 small:nt≤10000
theorem nJ{ops:Array Oper}{j:Nat}{d:Tmp}(h:bN ops j=some d):j<ops.size:=by
 unfold bN at h
 cases ho:ops[j]? with
 | none=>rw[ho] at h;cases h
 | some o=>exact(Array.getElem?_eq_some_iff.1 ho).1
theorem Cr{R:CE→CE→Bool}:∀{cs:List CE},uN R cs=true→∀l1 a l2 b l3,cs=l1++a::(l2++b::l3)→R a b=true
 | [],_,l1,a,l2,b,l3,h=>by simp at h
 | c::cs,hp,l1,a,l2,b,l3,h=>by
  simp only[uN,Bool.and_eq_true] at hp
  cases l1 with
  | nil=>
   simp only[List.nil_append,List.cons.injEq] at h
   obtain⟨rfl,rfl⟩:=h
   exact List.all_eq_true.1 hp.1 b (by simp)
  | cons x l1=>
   simp only[List.cons_append,List.cons.injEq] at h
   exact Cr hp.2 l1 a l2 b l3 h.2
theorem Iz{ops:Array Oper}{nt:Nat}{B:List Nat}{cs:List CE}(h:yd ops nt B cs=true):sB ops nt B cs:=by
 unfold yd at h
 simp only[Bool.and_eq_true] at h
 obtain⟨⟨⟨⟨⟨⟨⟨⟨⟨⟨h1,h2⟩,h3⟩,h4⟩,h5⟩,h6⟩,h7⟩,h8⟩,h9⟩,jo⟩,mn⟩:=h
 refine⟨fun i hi=> ?_,fun c hc=> ?_,fun l1 a l2 b l3 he=> ?_,fun i j o ho hj hd=> ?_,fun i o ho e he hb=> ?_,fun i d hd=> ?_,fun i j d hi hj=> ?_,fun i o ho k hk j hj=> ?_,fun a ha he=> ?_,fun a ha hs j d hj aF=> ?_,fun a ha hs d hd=> ?_,of_decide_eq_true mn⟩
 ·have:=List.all_eq_true.1 h1 i (List.mem_range.2 hi)
  obtain⟨c,hc,he⟩:=List.any_eq_true.1 this
  exact⟨c,hc,by simpa using he⟩
 ·simpa using List.all_eq_true.1 h2 c hc
 ·have:=Cr h3 l1 a l2 b l3 he
  simp only[Bool.and_eq_true,bne_iff_ne,ne_eq,Bool.not_eq_true',Bool.or_eq_true] at this
  refine⟨this.1.1,this.1.2,fun hc=> ?_⟩
  rcases this.2 with h | h
  ·rw[hc] at h;cases h
  ·exact h
 ·have hi:=(Array.getElem?_eq_some_iff.1 ho).1
  have:=List.all_eq_true.1 (List.all_eq_true.1 h4 i (List.mem_range.2 hi)) j (List.mem_range.2 hj)
  simp only[ho,hd,Bool.not_true,Bool.false_or] at this
  obtain⟨e,he,hb⟩:=Array.any_eq_true'.1 this
  simp only[Bool.and_eq_true,Bool.or_eq_true,beq_iff_eq] at hb
  exact⟨e,he,hb.1,hb.2⟩
 ·have hi:=(Array.getElem?_eq_some_iff.1 ho).1
  have:=List.all_eq_true.1 h5 i (List.mem_range.2 hi)
  rw[ho] at this
  have h2:=Array.all_eq_true'.1 this e he
  simpa [hb] using h2
 ·have:=List.all_eq_true.1 h6 i (List.mem_range.2 (nJ hd))
  simp only[Bool.and_eq_true] at this
  unfold bN at hd
  rw[hd] at this
  simpa using this.1
 ·have:=List.all_eq_true.1 h6 i (List.mem_range.2 (nJ hi))
  simp only[Bool.and_eq_true] at this
  have h2:=List.all_eq_true.1 this.2 j (List.mem_range.2 (nJ hj))
  unfold bN at hi hj
  rw[hi,hj] at h2
  simpa using h2
 ·have hi:=(Array.getElem?_eq_some_iff.1 ho).1
  have:=List.all_eq_true.1 h7 i (List.mem_range.2 hi)
  simp only[ho] at this
  have h2:=List.all_eq_true.1 (List.all_eq_true.1 this k hk) j (List.mem_range.2 (nJ hj))
  simp only[hj,bne_self_eq_false,Bool.false_or] at h2
  exact(Bool.or_eq_true _ _).mp h2
 ·have:=List.all_eq_true.1 h8 a ha
  simp only[he,Bool.not_true,Bool.false_or,Bool.and_eq_true] at this
  refine⟨this.1,fun b hb aF hs=> ?_⟩
  have h2:=List.all_eq_true.1 this.2 b hb
  simp only[hs,Bool.not_true,Bool.or_false,Bool.or_eq_true,beq_iff_eq] at h2
  rcases h2 with(h2 | h2) | h2
  ·exact absurd h2 aF
  ·exact .inl h2
  ·exact .inr h2
 ·have:=List.all_eq_true.1 h9 a ha
  simp only[hs,Bool.not_true,Bool.false_or] at this
  have h2:=List.all_eq_true.1 this j (List.mem_range.2 (nJ hj))
  simp only[hj,Bool.or_eq_true,beq_iff_eq] at h2
  rcases h2 with(h2 | h2) | h2
  ·exact absurd h2 aF
  ·exact .inl h2
  ·exact .inr (by simpa using h2)
 ·have:=List.all_eq_true.1 jo a ha
  simp only[hs,Bool.false_or] at this
  have h2:=List.all_eq_true.1 this d hd
  simp only[Bool.or_eq_true,beq_iff_eq,Bool.and_eq_true] at h2
  refine h2.imp id fun⟨h3,h4⟩=>⟨fun j hj=> ?_,fun b hb aF he=> ?_⟩
  ·have h5:=List.all_eq_true.1 h3 j (List.mem_range.2 (nJ hj))
   simpa [hj] using h5
  ·have h5:=List.all_eq_true.1 h4 b hb
   simp only[he,Bool.not_true,Bool.or_false,Bool.or_eq_true,beq_iff_eq] at h5
   rcases h5 with((h5 | h5) | h5) | h5
   ·exact absurd h5 aF
   ·exact .inl h5
   ·exact .inr (.inl h5)
   ·exact .inr (.inr (by simpa using h5))
structure yj(tb:TypeId→Option TI)(P:Program)(p:Nat)(ops:Array Oper)(cs:List CE)(s0:St)(K:St→Prop)(w0:World)(keep:Bs)(listed:Array Bool)(a:Act)(w:World):Prop where
 size:listed.size=ops.size
 closed:∀j oj,ops[j]? =some oj→listed.getD j false=true→∀e∈oj.after,Region.binds .any e=true→listed.getD e.on false=true
 ex:∃(tr:Tr)(rest:List CE),tr.map (·.1)++rest.map (·.i)=cs.map (·.i)∧(∀c∈rest,c∈cs)∧(∀c,rest.head? =some c→jU ops c.i=true)∧jV P ops p cs s0 [] tr∧
  (∀y∈tr,jU ops y.1=true→listed.getD y.1 false=true)∧oN tb P p ops rest K (bJ (bN ops) (fun _=>true) tr s0)∧(∀i,listed.getD i false=true→i∈tr.map (·.1))∧
  ∃E,Rel w0 keep E (bJ (bN ops) (fun i=>listed.getD i false) tr s0) a w
theorem ym {ops : Array Oper} {nt : Nat} {B : List Nat} {cs : List CE} (F : sB ops nt B cs) {listed : Array Bool} (hs : listed.size = ops.size) (hc : ∀ j oj, ops[j]? = some oj → listed.getD j false = true → ∀ e ∈ oj.after, Region.binds .any e = true → listed.getD e.on false = true) :
    ∀i j,listed.getD i false=true→j<ops.size→dD B i j=true→listed.getD j false=true:=by
 intro i
 induction i using Nat.strongRecOn with
 | _ i ih=>
  intro j hi hj hd
  have ai:i<ops.size:=by
   by_cases h:i<listed.size
   ·omega
   ·simp[h] at hi
  obtain⟨e,he,hb,mw⟩:=F.uP i j ops[i] (by simp[ai]) hj hd
  have hon:=hc i _ (by simp[ai]) hi e he hb
  rcases mw with rfl | mw
  ·exact hon
  ·exact ih e.on (F.back i _ (by simp[ai]) e he hb) j hon hj mw
theorem Cs {ops : Array Oper} {nt : Nat} {B : List Nat} {cs : List CE} (F : sB ops nt B cs) {listed : Array Bool} (hs : listed.size = ops.size) (hc : ∀ j oj, ops[j]? = some oj → listed.getD j false = true → ∀ e ∈ oj.after, Region.binds .any e = true → listed.getD e.on false = true)
    {i:Nat} {o:Oper} (ho:ops[i]? =some o) (hr:∀e∈o.after,Region.binds .any e=true→listed.getD e.on false=true):∀j,j<ops.size→dD B i j=true→listed.getD j false=true:=by
 intro j hj hd
 obtain⟨e,he,hb,mw⟩:=F.uP i j o ho hj hd
 rcases mw with rfl | mw
 ·exact hr e he hb
 ·exact ym F hs hc e.on j (hr e he hb) hj mw
theorem ku{ops:Array Oper}{nt:Nat}{B:List Nat}{cs:List CE}(F:sB ops nt B cs){l1 l2 l3:List Nat}{a b:Nat}(h:cs.map (·.i)=l1++a::(l2++b::l3)):a≠b∧dD B a b=false∧(jU ops a=true→dD B b a=true):=by
 obtain⟨c1,c2,e1,e2,e3⟩:=List.map_eq_append_iff.1 h
 obtain⟨ca,c3,e4,e5,e6⟩:=List.map_eq_cons_iff.1 e3
 obtain⟨c4,c5,e7,e8,e9⟩:=List.map_eq_append_iff.1 e6
 obtain⟨cb,c6,IA,IB,Ct⟩:=List.map_eq_cons_iff.1 e9
 have:=F.pair c1 ca c4 cb c6 (by rw[e1,e4,e7,IA])
 rwa [e5,IB] at this
end
end Go.Proofs.YtpbpiehcchannaaGreatDoor

/-! Abstract values: a region that draws its order: one order is enough: 'draw_of'. Conditions: its premises. -/
namespace Go.Proofs.YtpbpiehcchannaaGreatDoor
set_option linter.unusedVariables false
set_option linter.unusedSimpArgs false
open Go.RowKit
section
variable {P:Program}
def yn(ops:Array Oper)(p:Nat)(cs:List CE)(y:Nat×AV×Us):Prop:=
 ∃c∈cs,c.i=y.1∧∀r,ed y.2.2 r≠none→(∃d,bN ops y.1=some d∧r=p+d)∨(c.bk=true∧(c.jT=true→∀d∈c.hJ,r≠oL p d))
theorem IC{ops:Array Oper}{p:Nat}{cs:List CE}{s:St}{y:Nat×AV×Us}(h:yh P ops p cs s y):yn ops p cs y:=by
 obtain⟨c,hc,o,h1,h2,h3,_⟩:=h
 refine⟨c,hc,h1,fun r hr=> ?_⟩
 rcases h3 r hr with h | ⟨h4,h5⟩
 ·left
  cases hd:o.dst with
  | none=>rw[hd] at h;cases h
  | some d=>rw[hd] at h;exact⟨d,by simp[bN,h2,hd],(Option.some.inj h).symm⟩
 ·obtain⟨e,he⟩:=Option.ne_none_iff_exists'.1 h5
  exact .inr ⟨h4,fun hs=>by
   rcases(uM he).1 with q | q
   ·exact q.2
   ·rw[hs] at q;exact absurd q.1 (by simp)⟩
theorem Cu{ops:Array Oper}{p:Nat}{cs:List CE}{s0:St}:∀{tr pre:Tr},jV P ops p cs s0 pre tr→∀y∈tr,yn ops p cs y
 | y::tr,pre,h,z,hz=>by
  rcases List.mem_cons.1 hz with rfl | hz
  ·exact IC h.1
  ·exact Cu h.2 z hz
structure yo(cs:List CE)(i:Nat)(t1 t2:Tr):Prop where
 b:∀y∈t1,∃l1 l2 l3,cs.map (·.i)=l1++y.1::(l2++i::l3)
 a:∀y∈t2,y.1=i∨∃l1 l2 l3,cs.map (·.i)=l1++i::(l2++y.1::l3)
theorem agree {ops : Array Oper} {nt p : Nat} {B : List Nat} {cs : List CE} (F : sB ops nt B cs) {s0 : St} {listed : Array Bool} (hs : listed.size = ops.size) (hc : ∀ j oj, ops[j]? = some oj → listed.getD j false = true → ∀ e ∈ oj.after, Region.binds .any e = true → listed.getD e.on false = true)
    {i:Nat} {o:Oper} (ho:ops[i]? =some o) (hr:∀e∈o.after,Region.binds .any e=true→listed.getD e.on false=true) (fJ:listed.getD i false=false) {c:CE} (jz:c∈cs) (aS:c.i=i) {t1 t2:Tr} (pl:yo cs i t1 t2) (hid:∀y∈t1++t2,yn ops p cs y):
    (∀k∈jx ops o,bn (bJ (bN ops) (fun j=>listed.getD j false) (t1++t2) s0).t k=bn (bJ (bN ops) (fun _=>true) t1 s0).t k)∧
    (∀(r:Nat)(e:U),oM p c (bJ (bN ops) (fun _=>true) t1 s0).H r=some e→(bJ (bN ops) (fun j=>listed.getD j false) (t1++t2) s0).H[r]? =some e):=by
 have qx:=Cs F hs hc ho hr
 have bV:∀j,dD B j i=true→i<ops.size→listed.getD j false=false:=by
  intro j hd ai
  cases h:listed.getD j false with
  | false=>rfl
  | true=>have:=ym F hs hc j i h ai hd;rw[fJ] at this;cases this
 have nK:=(Array.getElem?_eq_some_iff.1 ho).1
 constructor
 ·intro k hk
  refine Im _ (fun y hy hd=> ?_) (fun y hy hd=> ?_)
  ·rcases F.look i o ho k hk y.1 hd with q | q
   ·exact qx y.1 (nJ hd) q
   ·obtain⟨l1,l2,l3,h⟩:=pl.b y hy
    have:=(ku F h).2.1
    rw[q] at this;cases this
  rcases pl.a y hy with h | ⟨l1,l2,l3,h⟩
  ·rw[h];exact fJ
  ·rcases F.look i o ho k hk y.1 hd with q | q
   ·have:=(ku F h).2.1
    rw[q] at this;cases this
   ·exact bV y.1 q nK
 ·intro r e hv
  obtain⟨kT | ⟨kT,d0,sC,yp⟩,he⟩:=uM hv
  rotate_left
  ·-- its own row alone
   have jQ:=F.own c jz kT d0 sC
   rw[aS] at jQ
   rw[←he]
   have Cv:∀y∈t1++t2,y.1≠i→ed y.2.2 r≠none→dD B y.1 i=true∨dD B i y.1=true:=by
    intro y hy aF ht
    obtain⟨cy,lM,iW,gw⟩:=hid y hy
    rcases gw r ht with⟨d,hd,qx⟩ | ⟨mE,Cw⟩
    ·have:d=d0:=It (qx.symm.trans yp)
     subst this
     rcases jQ with jQ | ⟨jQ,_⟩
     ·exact absurd (F.yi y.1 i d hd jQ) aF
     ·exact .inr (jQ y.1 hd)
    ·have cq:=(F.bk cy lM mE).1
     rcases jQ with jQ | ⟨_,jQ⟩
     ·rcases F.hJ cy lM cq i d0 jQ (by rw[iW];exact Ne.symm aF) with h | h
      ·rw[iW] at h;exact .inl h
      ·exact absurd yp (Cw cq d0 h)
     ·rcases jQ cy lM (by rw[iW];exact aF) mE with h | h | h
      ·rw[iW] at h;exact .inl h
      ·rw[iW] at h;exact .inr h
      ·exact absurd yp (Cw cq d0 h)
   refine Cg _ (fun y hy ht=> ?_) (fun y hy ht=> ?_)
   ·obtain⟨l1,l2,l3,fR⟩:=pl.b y hy
    obtain⟨aF,bW,_⟩:=ku F fR
    rcases Cv y (by simp[hy]) aF ht with h | h
    ·rw[bW] at h;cases h
    ·obtain⟨cy,lM,iW,_⟩:=hid y (by simp[hy])
     exact qx y.1 (by rw[←iW];exact F.range cy lM) h
   ·rcases pl.a y hy with h | ⟨l1,l2,l3,fR⟩
    ·rw[h];exact fJ
    ·obtain⟨aF,bW,_⟩:=ku F fR
     rcases Cv y (by simp[hy]) (Ne.symm aF) ht with h | h
     ·exact bV y.1 h nK
     ·rw[bW] at h;cases h
  obtain⟨kT,Cx⟩:=kT
  rw[←he]
  refine Cg _ (fun y hy ht=> ?_) (fun y hy ht=> ?_)
  ·obtain⟨cy,lM,iW,gw⟩:=hid y (by simp[hy])
   obtain⟨l1,l2,l3,fR⟩:=pl.b y hy
   obtain⟨aF,bW,_⟩:=ku F fR
   rcases gw r ht with⟨d,hd,rfl⟩ | ⟨mE,_⟩
   ·rcases F.hJ c jz kT y.1 d hd (by rw[aS];exact aF) with h | h
    ·exact qx y.1 (nJ hd) (by rw[←aS];exact h)
    ·exact absurd (uL (Nat.lt_of_lt_of_le (F.uQ _ _ hd) F.small)).symm (Cx d h)
   ·have PX:=F.range cy lM
    rcases(F.bk cy lM mE).2 c jz (by rw[aS,iW];exact Ne.symm aF) kT with h | h
    ·rw[aS,iW] at h;exact qx y.1 (by omega) h
    ·rw[aS,iW,bW] at h;cases h
  ·rcases pl.a y hy with h | ⟨l1,l2,l3,fR⟩
   ·rw[h];exact fJ
   ·obtain⟨aF,bW,_⟩:=ku F fR
    obtain⟨cy,lM,iW,gw⟩:=hid y (by simp[hy])
    rcases gw r ht with⟨d,hd,rfl⟩ | ⟨mE,_⟩
    ·rcases F.hJ c jz kT y.1 d hd (by rw[aS];exact Ne.symm aF) with h | h
     ·rw[aS,bW] at h;cases h
     ·exact absurd (uL (Nat.lt_of_lt_of_le (F.uQ _ _ hd) F.small)).symm (Cx d h)
    ·rcases(F.bk cy lM mE).2 c jz (by rw[aS,iW];exact aF) kT with h | h
     ·rw[aS,iW,bW] at h;cases h
     ·rw[aS,iW] at h;exact bV y.1 h nK
theorem bz{tb:TypeId→Option TI}(aA:cj P tb)(hm:P.follows .mixedOrders=true){p:Nat}{id:Nat}{ops:Array Oper}(B:List Nat)(cs:List CE){s0:St}{K:St→Prop}(eJ:yd ops s0.t.length B cs=true)(h:oN tb P p ops cs K s0):ux P id ops K s0:=by
 have F:=Iz eJ
 unfold ux
 intro w0 keep E a w hR rr nn ID
 obtain⟨dst,PZ⟩:∃dst,dst=bN ops:=⟨_,rfl⟩
 -- the trace's numbers are all unlike
 have yq:∀{l1 l2:List Nat},l1++l2=cs.map (·.i)→∀x,x∈l1→x∉l2:=by
  intro l1 l2 hl x h1 h2
  obtain⟨a1,a2,rfl⟩:=List.append_of_mem h1
  obtain⟨b1,b2,rfl⟩:=List.append_of_mem h2
  have:=ku F (l1:=a1) (l2:=a2++b1) (l3:=b2) (a:=x) (b:=x) (by rw[←hl];simp)
  exact this.1 rfl
 have Cy:∀(listed:Array Bool)(a:Act)(w:World),yj tb P p ops cs s0 K w0 keep listed a w→Region.ready .any ops listed=[]→(fun e a' w'=>e=Exit.normal∧∃s' E',Rel w0 keep E' s' a' w'∧K s') Exit.normal a w:=by
  intro listed a w hI IE
  have eI:∀i,i<ops.size→listed.getD i false=true:=by
   intro i
   induction i using Nat.strongRecOn with
   | _ i ih=>
    intro hi
    cases hl:listed.getD i false with
    | true=>rfl
    | false=>
     exfalso
     have hk:i∈Region.ready .any ops listed:=by
      unfold Region.ready
      refine List.mem_filter.2 ⟨List.mem_range.2 hi,?_⟩
      have fJ:i<listed.size:=by rw[hI.size];exact hi
      have bu:listed.getD i true=false:=by simpa [Array.getD,fJ] using hl
      simp only[bu,Bool.not_false,Bool.true_and,Array.getElem?_eq_getElem hi,Option.map_some,Option.getD_some]
      refine Array.all_eq_true'.2 fun e he=> ?_
      cases IF:Region.binds .any e
      ·simp
      ·have hb:=F.back i _ (by simp[hi]) e he IF
       simp[ih e.on hb (by omega)]
     rw[IE] at hk
     cases hk
  obtain⟨tr,rest,h1,h2,h3,h4,h5,h6,h7,E,hE⟩:=hI.ex
  have yr:rest=[]:=by
   cases rest with
   | nil=>rfl
   | cons c rest=>
    exfalso
    have hc:=h7 c.i (eI c.i (F.range c (h2 c (by simp))))
    exact yq h1 c.i hc (by simp)
  subst yr
  have heq:bJ (bN ops) (fun i=>listed.getD i false) tr s0=bJ (bN ops) (fun _=>true) tr s0:=by
   refine yf _ fun y hy=> ?_
   have:y.1∈cs.map (·.i):=by rw[←h1];simp;exact⟨_,_,hy⟩
   obtain⟨c,hc,aS⟩:=List.mem_map.1 this
   rw[eI y.1 (by rw[←aS];exact F.range c hc)]
  exact⟨rfl,_,E,hE,by rw[heq];exact h6⟩
 have key:∀(fuel:Nat)(listed:Array Bool)(a:Act)(w:World),yj tb P p ops cs s0 K w0 keep listed a w→((List.range ops.size).filter (fun i=> !listed.getD i true)).length≤fuel→wpAnyIn (FR rr) nn P .any ops (fun e a' w'=>e=Exit.normal∧∃s' E',Rel w0 keep E' s' a' w'∧K s') fuel listed a w:=by
  intro fuel
  induction fuel with
  | zero=>
   intro listed a w hI hf
   have oB:Region.ready .any ops listed=[]:=by
    refine List.eq_nil_iff_forall_not_mem.2 fun i hi=> ?_
    obtain⟨h1,h2,_⟩:=Cz hi
    have:i∈(List.range ops.size).filter (fun i=> !listed.getD i true):=List.mem_filter.2 ⟨List.mem_range.2 h1,by simp[h2]⟩
    rw[List.eq_nil_of_length_eq_zero (Nat.le_zero.1 hf)] at this
    cases this
   exact⟨oB,Cy listed a w hI oB⟩
  | succ fuel ih=>
   intro listed a w hI hf
   refine⟨Cy listed a w hI,fun i hi=> ?_⟩
   obtain⟨nK,h2,o,ho,uR⟩:=Cz hi
   have fJ:i<listed.size:=by rw[hI.size];exact nK
   have gL:listed.getD i false=false:=by simpa [Array.getD,fJ] using h2
   have aL:∀j,(listed.setIfInBounds i true).getD j false=(listed.getD j false||j==i):=by
    intro j
    by_cases hj:j=i
    ·subst hj;simp[fJ]
    ·simp[Array.getElem?_setIfInBounds_ne (Ne.symm hj),hj]
   have CA:((List.range ops.size).filter (fun k=> !(listed.setIfInBounds i true).getD k true)).length≤fuel:=by
    have:((List.range ops.size).filter (fun k=> !(listed.setIfInBounds i true).getD k true)).length< ((List.range ops.size).filter (fun k=> !listed.getD k true)).length:=by
     have e:(List.range ops.size).filter (fun k=> !(listed.setIfInBounds i true).getD k true)=((List.range ops.size).filter (fun k=> !listed.getD k true)).filter (fun k=>k !=i):=by
      rw[List.filter_filter]
      refine List.filter_congr fun k hk=> ?_
      by_cases mF:k=i
      ·subst mF;simp[fJ]
      ·simp[Array.getElem?_setIfInBounds_ne (Ne.symm mF),mF]
     rw[e]
     have jW:i∈(List.range ops.size).filter (fun k=> !listed.getD k true):=List.mem_filter.2 ⟨List.mem_range.2 nK,by simp[h2]⟩
     exact List.length_filter_lt_length_iff_exists.2 ⟨i,jW,by simp⟩
    omega
   have CB:∀j oj,ops[j]? =some oj→(listed.setIfInBounds i true).getD j false=true→∀e∈oj.after,Region.binds .any e=true→(listed.setIfInBounds i true).getD e.on false=true:=by
    intro j oj lF hl e he hb
    rw[aL] at hl⊢
    simp only[Bool.or_eq_true,beq_iff_eq] at hl⊢
    rcases hl with hl | rfl
    ·exact .inl (hI.closed j oj lF hl e he hb)
    ·obtain rfl:o=oj:=Option.some.inj (ho.symm.trans lF)
     exact .inl (uR e he hb)
   obtain⟨tr,rest,h1,bV,h3,h4,h5,h6,h7,E,hE⟩:=hI.ex
   have gw:=Cu h4
   have yt:bN ops i=o.dst:=by simp[bN,ho]
   -- how the step ends
   have done : ∀ {post : AV → Us → Prop}, (∀ v us (E' : Env) (w' : World) (a' : Act), post v us → Rel w0 keep E' ⟨aV (bJ (bN ops) (fun j => listed.getD j false) tr s0).t o.dst v, aK (bJ (bN ops) (fun j => listed.getD j false) tr s0).H us⟩ a' w' → yj tb P p ops cs s0 K w0 keep (listed.setIfInBounds i true) a' w') →
       ((Region.wanted o (yielded ops a.tmps)=true∧o.wp P a w (fun a' w'=>∃v us E',post v us∧Rel w0 keep E' ⟨aV (bJ (bN ops) (fun j=>listed.getD j false) tr s0).t o.dst v,aK (bJ (bN ops) (fun j=>listed.getD j false) tr s0).H us⟩ a' w') (fun e a' w'=>e=Exit.normal∧∃s' E',Rel w0 keep E' s' a' w'∧K s'))∨
        (Region.wanted o (yielded ops a.tmps)=false∧∃v us,post v us∧Rel w0 keep E ⟨aV (bJ (bN ops) (fun j=>listed.getD j false) tr s0).t o.dst v,aK (bJ (bN ops) (fun j=>listed.getD j false) tr s0).H us⟩ (a.put o.dst undef) w))→
       wpOpIn (FR rr) nn P ops (fun e a' w'=>e=Exit.normal∧∃s' E',Rel w0 keep E' s' a' w'∧K s') i (wpAnyIn (FR rr) nn P .any ops (fun e a' w'=>e=Exit.normal∧∃s' E',Rel w0 keep E' s' a' w'∧K s') fuel (listed.setIfInBounds i true)) a w:=by
    intro post CC hx
    unfold wpOpIn
    simp only[ho]
    rcases hx with⟨hw,IG⟩ | ⟨hw,v,us,hp,hU⟩
    ·rw[if_pos hw]
     exact Oper.wpIn_mono (fun a' w'⟨v,us,E',hp,hU⟩=>ih _ _ _ (CC v us E' w' a' hp hU) CA) (ju IG rr nn (ID o (Array.mem_toList_iff.2 (Array.mem_of_getElem? ho))))
    ·rw[if_neg (by rw[hw];simp)]
     exact⟨fun _ _=>trivial,ih _ _ _ (CC v us E w _ hp hU) CA⟩
   obtain⟨cI,IH,II⟩:=F.cover i nK
   by_cases jW:i∈tr.map (·.1)
   ·obtain⟨y,hy,nL⟩:=List.mem_map.1 jW
    obtain⟨t1,t2,mG⟩:=List.append_of_mem hy
    have CD:∀z∈t1,∃l1 l2 l3,cs.map (·.i)=l1++z.1::(l2++i::l3):=by
     intro z hz
     obtain⟨a1,a2,rfl⟩:=List.append_of_mem hz
     exact⟨a1.map (·.1),a2.map (·.1),t2.map (·.1)++rest.map (·.i),by rw[←h1,mG];simp[nL]⟩
    have uS:∀z∈t2,∃l1 l2 l3,cs.map (·.i)=l1++i::(l2++z.1::l3):=by
     intro z hz
     obtain⟨b1,b2,rfl⟩:=List.append_of_mem hz
     exact⟨t1.map (·.1),b1.map (·.1),b2.map (·.1)++rest.map (·.i),by rw[←h1,mG];simp[nL]⟩
    have IJ:jU ops i=false:=by
     cases hc:jU ops i with
     | false=>rfl
     | true=>
      have:=h5 y hy (by rw[nL];exact hc)
      rw[nL,gL] at this;cases this
    rw[mG] at h4 gw hE done
    obtain⟨c,jz,o',aS,qw,P0,IK⟩:=Iw h4
    rw[nL] at qw aS
    obtain rfl:o=o':=Option.some.inj (ho.symm.trans qw)
    obtain⟨sA,sD,IL,hex⟩:=IK (by simpa [jU,ho] using IJ)
    have pl:yo cs i t1 (y::t2):=⟨CD,fun z hz=>by
     rcases List.mem_cons.1 hz with rfl | hz
     ·exact .inl nL
     ·exact .inr (uS z hz)⟩
    have ag:=agree F (s0:=s0) hI.size hI.closed ho uR gL jz aS pl gw
    refine done (post:=fun v us=>v=y.2.1∧us=sA) ?_ (hex w0 keep E _ a w _ hE ag.1 ag.2)
    rintro v us E' w' a' ⟨rfl,rfl⟩ hU
    have qy:(⟨aV (bJ (bN ops) (fun j=>listed.getD j false) (t1++y::t2) s0).t o.dst y.2.1,aK (bJ (bN ops) (fun j=>listed.getD j false) (t1++y::t2) s0).H us⟩:St)=bJ (bN ops) (fun j=>(listed.setIfInBounds i true).getD j false) (t1++y::t2) s0:=by
     rw[qv sD (fun r e _ h=>ag.2 r e h),IL,←yt]
     have ey:y=(i,y.2.1,y.2.2):=by rw[←nL]
     have bX:=Il (bN ops) (L:=fun j=>listed.getD j false) (t1:=t1) (t2:=t2) (i:=i) (v:=y.2.1) (us:=y.2.2) (s:=s0) gL (fun z hz=> ?_) (fun z hz=> ?_) (fun z hz k kv sE=> ?_) (fun z hz r cG hr2=> ?_)
     ·rw[←ey] at bX
      have IM:(fun j=>(listed.setIfInBounds i true).getD j false)=fun j=>listed.getD j false||j==i:=funext aL
      rw[IM,bX];rfl
     ·obtain⟨l1,l2,l3,fR⟩:=CD z hz
      exact(ku F fR).1
     ·obtain⟨l1,l2,l3,fR⟩:=uS z hz
      exact Ne.symm (ku F fR).1
     ·obtain⟨l1,l2,l3,fR⟩:=uS z hz
      exact absurd (F.yi _ _ _ kv sE) (ku F fR).1
     ·obtain⟨l1,l2,l3,fR⟩:=uS z hz
      obtain⟨aF,bW,_⟩:=ku F fR
      obtain⟨cz,oO,qz,CF⟩:=gw z (by simp[hz])
      have IN:=F.range cz oO
      rw[qz] at IN
      have CG:dD B z.1 i=true→listed.getD z.1 false=false:=by
       intro hd
       cases sF:listed.getD z.1 false with
       | false=>rfl
       | true=>have:=ym F hI.size hI.closed z.1 i sF nK hd;rw[gL] at this;cases this
      obtain⟨ci,sG,qA,CH⟩:=gw y (by simp)
      rw[nL] at qA CH
      rcases CH r cG with⟨d,hd,rfl⟩ | ⟨mE,IP⟩
      ·rcases CF _ hr2 with⟨d',kx,he⟩ | ⟨uT,CI⟩
       ·have:d=d':=Nat.add_left_cancel he
        subst this
        exact absurd (F.yi _ _ _ hd kx) aF
       ·rcases F.hJ cz oO (F.bk cz oO uT).1 i d hd (by rw[qz];exact aF) with h | h
        ·rw[qz] at h;exact CG h
        ·exact absurd (uL (Nat.lt_of_lt_of_le (F.uQ _ _ hd) F.small)).symm (CI (F.bk cz oO uT).1 d h)
      ·have kT:=(F.bk ci sG mE).1
       rcases CF _ hr2 with⟨d',kx,he⟩ | ⟨uT,CI⟩
       ·rcases F.hJ ci sG kT z.1 d' kx (by rw[qA];exact Ne.symm aF) with h | h
        ·rw[qA,bW] at h;cases h
        ·exact absurd (he.trans (uL (Nat.lt_of_lt_of_le (F.uQ _ _ kx) F.small)).symm) (IP kT d' h)
       ·rcases(F.bk ci sG mE).2 cz oO (by rw[qA,qz];exact Ne.symm aF) (F.bk cz oO uT).1 with h | h
        ·rw[qA,qz] at h;exact CG h
        ·rw[qA,qz,bW] at h;cases h
    rw[qy] at hU
    refine⟨by simp[hI.size],CB,t1++y::t2,rest,by rw[←mG];exact h1,bV,h3,h4,fun z hz hc=> ?_,by rw[←mG];exact h6,fun j hj=> ?_,E',hU⟩
    ·rw[aL,h5 z (by rw[mG];exact hz) hc];rfl
    ·rw[aL] at hj
     simp only[Bool.or_eq_true,beq_iff_eq] at hj
     rw[←mG]
     rcases hj with hj | rfl
     ·exact h7 j hj
     ·exact jW
   ·have yu:i∈rest.map (·.i):=by
      have:i∈cs.map (·.i):=List.mem_map.2 ⟨cI,IH,II⟩
      rw[←h1] at this
      exact(List.mem_append.1 this).resolve_left jW
    cases rest with
    | nil=>simp at yu
    | cons c rest=>
     have yw:=h3 c rfl
     have aS:c.i=i:=by
      simp only[List.map_cons,List.mem_cons] at yu
      rcases yu with h | h
      ·exact h.symm
      ·exfalso
       obtain⟨l2,l3,hl⟩:=List.append_of_mem h
       have fR:cs.map (·.i)=tr.map (·.1)++c.i::(l2++i::l3):=by rw[←h1];simp[hl]
       have hd:=(ku F fR).2.2 yw
       have IQ:=Cs F hI.size hI.closed ho uR c.i (F.range c (bV c (by simp))) hd
       exact yq h1 c.i (h7 _ IQ) (by simp)
     have jz:=bV c (by simp)
     unfold oN at h6
     rw[qd,aS] at h6
     have jI:ops.toList[i]? =some o:=by simpa using ho
     rw[jI] at h6
     simp only at h6
     obtain⟨post,iT,hex,_⟩:=Cq aA h6
     have pl:yo cs i tr []:=⟨fun z hz=>by
      obtain⟨a1,a2,rfl⟩:=List.append_of_mem hz
      exact⟨a1.map (·.1),a2.map (·.1),rest.map (·.i),by rw[←h1];simp[aS]⟩,fun z hz=>by simp at hz⟩
     have ag:=agree F (s0:=s0) hI.size hI.closed ho uR gL jz aS pl (by simpa using gw)
     rw[List.append_nil] at ag
     refine done (post:=post) ?_ (hex w0 keep E _ a w _ hE ag.1 ag.2)
     intro v us E' w' a' hp hU
     obtain⟨sD,hK⟩:=iT v us hp
     have IS:lK o=true:=by rw[aS] at yw;simpa [jU,ho] using yw
     have IT:(⟨aV (bJ (bN ops) (fun _=>true) tr s0).t o.dst v,aK (bJ (bN ops) (fun _=>true) tr s0).H us⟩:St)=bJ (bN ops) (fun _=>true) (tr++[(i,v,fQ (eW p o.dst) c.bk us)]) s0:=by
      rw[sy]
      simp only[bJ,if_true,mD,yt]
      rw[←qv sD (fun r e _ h=>(uM h).2)]
     rw[IT] at hK
     have bB:jV P ops p cs s0 [] (tr++[(i,v,fQ (eW p o.dst) c.bk us)]):=by
      refine uO.2 ⟨h4,?_,trivial⟩
      exact⟨c,jz,o,aS,ho,fun r hr=>by simpa using ye sD r hr,fun hn=>by rw[IS] at hn;cases hn⟩
     obtain⟨t2,kt,g1,g2,g3,g4,g5,g6⟩:=saturate (P:=P) aA rest _ (fun c' h'=>bV c' (by simp[h'])) bB hK
     have fR:((tr++[(i,v,fQ (eW p o.dst) c.bk us)])++t2).map (·.1)++kt.map (·.i)=cs.map (·.i):=by
      rw[←h1];simp only[List.map_append,List.map_cons,List.map_nil,List.append_assoc,g1,aS];simp
     have dY:∀z∈t2,(listed.setIfInBounds i true).getD z.1 false=false:=by
      intro z hz
      cases sF:(listed.setIfInBounds i true).getD z.1 false with
      | false=>rfl
      | true=>
       exfalso
       rw[aL] at sF
       simp only[Bool.or_eq_true,beq_iff_eq] at sF
       have IU:z.1∈(tr++[(i,v,fQ (eW p o.dst) c.bk us)]).map (·.1):=by
        rcases sF with h | h
        ·simp only[List.map_append,List.mem_append];exact .inl (h7 _ h)
        ·simp[h]
       have IV:(tr++[(i,v,fQ (eW p o.dst) c.bk us)]).map (·.1)++(t2.map (·.1)++kt.map (·.i))=cs.map (·.i):=by
        rw[←fR];simp
       exact yq IV z.1 IU (by simp only[List.mem_append];exact .inl (List.mem_map.2 ⟨z,hz,rfl⟩))
     have qy:(⟨aV (bJ (bN ops) (fun j=>listed.getD j false) tr s0).t o.dst v,aK (bJ (bN ops) (fun j=>listed.getD j false) tr s0).H us⟩:St)=bJ (bN ops) (fun j=>(listed.setIfInBounds i true).getD j false) ((tr++[(i,v,fQ (eW p o.dst) c.bk us)])++t2) s0:=by
      rw[sy (a:=tr++[(i,v,fQ (eW p o.dst) c.bk us)]) (b:=t2),yg (a:=t2) _ dY,sy (a:=tr) (b:=[(i,v,fQ (eW p o.dst) c.bk us)])]
      have oq:(listed.setIfInBounds i true).getD i false=true:=by rw[aL];simp
      simp only[bJ,oq,if_true,mD,yt]
      rw[qv sD (fun r e _ h=>ag.2 r e h)]
      have IW:bJ (bN ops) (fun j=>(listed.setIfInBounds i true).getD j false) tr s0=bJ (bN ops) (fun j=>listed.getD j false) tr s0:=by
       refine yf _ fun z hz=> ?_
       have IX:z.1≠i:=fun e=>jW (by rw[←e];exact List.mem_map.2 ⟨z,hz,rfl⟩)
       rw[aL];simp[IX]
      rw[IW]
     rw[qy] at hU
     refine⟨by simp[hI.size],CB,_,kt,fR,g2,g3,g4,fun z hz hc=> ?_,g6,fun j hj=> ?_,E',hU⟩
     ·rcases List.mem_append.1 hz with hz | hz
      ·rcases List.mem_append.1 hz with hz | hz
       ·rw[aL,h5 z hz hc];rfl
       ·simp only[List.mem_singleton] at hz
        subst hz
        rw[aL];simp
      ·rw[g5 z hz] at hc;cases hc
     ·rw[aL] at hj
      simp only[Bool.or_eq_true,beq_iff_eq] at hj
      simp only[List.map_append,List.mem_append]
      rcases hj with hj | rfl
      ·exact .inl (.inl (h7 j hj))
      ·exact .inl (.inr (by simp))
 refine wpIn_region_any hm (key ops.size _ _ _ ?_ ?_)
 ·obtain⟨t2,kt,g1,g2,g3,g4,g5,g6⟩:=saturate (P:=P) aA (s0:=s0) (K:=K) cs [] (fun _ h=>h) trivial h
  refine⟨by simp,?_,t2,kt,g1,g2,g3,by simpa using g4,?_,by simpa using g6,?_,E,?_⟩
  ·intro j oj lF hl
   exfalso
   have hj:=(Array.getElem?_eq_some_iff.1 lF).1
   simp[hj] at hl
  ·intro y hy fK
   rw[g5 y hy] at fK;cases fK
  ·intro j hj
   exfalso
   by_cases h:j<ops.size<;>simp[h] at hj
  ·rw[yg _ (fun y hy=>by by_cases h:y.1<ops.size<;>simp[h])]
   exact hR.drew
 ·exact Nat.le_trans (List.length_filter_le _ _) (by simp)
end
end Go.Proofs.YtpbpiehcchannaaGreatDoor

/-! Small laws for walks. Conditions: none. -/
namespace Go.Proofs.YtpbpiehcchannaaGreatDoor
set_option linter.unusedVariables false
set_option linter.unusedSimpArgs false
def aG(n:Int):Prop:= -9223372036854775808≤n∧n≤9223372036854775807
theorem IY(b:UInt8):((b.toNat:Int)≤255)=True:=by have:=UInt8.toNat_lt b;simp;omega
theorem u8_and(a b:UInt8):UInt8.ofNat (((a.toNat:Int).toNat&&&(b.toNat:Int).toNat:Nat):Int).toNat=a&&&b:=by
 simp only[Int.toNat_natCast]
 rw[←UInt8.toNat_and,UInt8.ofNat_toNat]
theorem IZ(a b:UInt8):((((a.toNat:Int).toNat&&&(b.toNat:Int).toNat:Nat):Int)≤255)=True:=by
 have:=UInt8.toNat_lt (a&&&b);rw[UInt8.toNat_and] at this;simp only[Int.toNat_natCast];simp;omega
theorem I0(a b:UInt8):((((a.toNat:Int).toNat|||(b.toNat:Int).toNat:Nat):Int)≤255)=True:=by
 have:=UInt8.toNat_lt (a|||b);rw[UInt8.toNat_or] at this;simp only[Int.toNat_natCast];simp;omega
theorem I1(a b:UInt8):((((a.toNat:Int).toNat^^^(b.toNat:Int).toNat:Nat):Int)≤255)=True:=by
 have:=UInt8.toNat_lt (a^^^b);rw[UInt8.toNat_xor] at this;simp only[Int.toNat_natCast];simp;omega
theorem nn(n:Nat):(0≤(n:Int))=True:=by simp
end Go.Proofs.YtpbpiehcchannaaGreatDoor

/-! Calls of functions whose answer is given as a value and rows. Conditions: none. -/
namespace Go.Proofs.YtpbpiehcchannaaGreatDoor
set_option linter.unusedVariables false
set_option linter.unusedSimpArgs false
open Go.RowKit
def bY(X:AV)(rows:List U):AV→List U→Prop:=fun x H=>∃tl,x=X∧H=rows++tl
def dr(Q:Nat→U→Prop):List U→Nat→Prop
 | [],_=>True
 | e::es,n=>Q n e∧dr Q es (n+1)
theorem qB{Q:Nat→U→Prop}:∀{l:List U}{n r:Nat}{e:U},dr Q l n→l[r]? =some e→Q (n+r) e
 | [],n,r,e,_,h=>by simp at h
 | x::l,n,0,e,hq,h=>by simp only[List.getElem?_cons_zero,Option.some.injEq] at h;subst h;exact hq.1
 | x::l,n,r+1,e,hq,h=>by
  simp only[List.getElem?_cons_succ] at h
  have:=qB hq.2 h
  rw[show n+(r+1)=n+1+r by omega];exact this
theorem CJ{Q Q':Nat→U→Prop}(h:∀r e,Q r e→Q' r e):∀{l:List U}{n:Nat},dr Q l n→dr Q' l n
 | [],n,_=>trivial
 | x::l,n,hq=>⟨h _ _ hq.1,CJ h hq.2⟩
def rl(sg:List Nat):Ren:=⟨fun r=>ck sg r,fun _=>0⟩
where ck:List Nat→Nat→Nat
 | [],_=>0
 | x::_,0=>x
 | _::xs,r+1=>ck xs r
theorem CK:∀(l:List Nat)(r:Nat),rl.ck l r=l.getD r 0
 | [],r=>by simp[rl.ck]
 | x::l,0=>by simp[rl.ck]
 | x::l,r+1=>by simp[rl.ck,CK l r]
theorem yx{R:Ren}{rows tl:List U}:∀{rs:List Nat},(∀r,r∈rs→r<rows.length)→dQ R (rows++tl) rs=dQ R rows rs
 | [],_=>rfl
 | r::rs,h=>by
  have hr:=h r (by simp)
  have:cX (rows++tl) r=cX rows r:=by
   unfold cX
   rw[bS,bS,List.getElem?_append_left hr]
  simp only[dQ,this]
  rw[yx (fun r' h'=>h r' (by simp[h']))]
def oP:List Nat→Nat→List Nat
 | [],_=>[]
 | _::xs,n=>n::oP xs (n+1)
theorem CL:∀(l:List Nat)(n:Nat),oP l n=List.range' n l.length
 | [],n=>rfl
 | x::l,n=>by rw[oP,CL l (n+1)];rfl
theorem jX {P : Program} {f : FuncId} {cO : List AV} {H0 : List U} {X : AV} {rows : List U} (S : Spec P f cO H0 (bY X rows)) (eK : ∀ (fS : Array Value) (w : World), (callFunc f fS).run P w = .ok (.enter f fS) w)
    (sg:List Nat) (hl:H0.length=sg.length) (lN:rows.length=sg.length) (bW:sg.Nodup) {args caps:List AV} {hg:Nat→Option U} (cr:args++caps=b7 (rl sg) cO)
    (hon:cT (· <sg.length) cO) (hrows:dr (fun r e=>c8 (· <sg.length) e.bd∧hg ((rl sg).σ r)=some ⟨e.ver,bL (rl sg) e.bd⟩) H0 0)
    (hX:cL (· <sg.length) X) (hr2:dr (fun _ e=>c8 (· <sg.length) e.bd) rows 0) {K:AV→List (Nat×U)→Prop} (hK:K (bx (rl sg) X) (dQ (rl sg) rows (oP sg 0))):
    eV P (.clo f caps) args hg K:=by
 rw[CL,←List.range_eq_range'] at hK
 have hm:∀r,r∈List.range sg.length↔r<sg.length:=fun r=>List.mem_range
 have e1:(fun r=>r∈List.range sg.length)=(fun r=>r<sg.length):=by funext r;exact propext (hm r)
 refine x5 (Cb S eK (rl sg) (List.range sg.length) List.nodup_range ?_ ?_ cr ?_ ?_ ?_ ?_) ?_
 ·intro r h;exact⟨(hm r).2 (by omega),rfl⟩
 ·intro a b ha hb h
  rw[hm] at ha hb
  simp only[rl,CK] at h
  rw[List.getD_eq_getElem?_getD,List.getD_eq_getElem?_getD,List.getElem?_eq_getElem ha,List.getElem?_eq_getElem hb] at h
  simp only[Option.getD_some] at h
  have hp:=List.pairwise_iff_getElem.1 bW
  rcases Nat.lt_trichotomy a b with q | q | q
  ·exact absurd h (hp a b ha hb q)
  ·exact q
  ·exact absurd h.symm (hp b a hb ha q)
 ·rw[hl];exact hon
 ·intro r e h
  have:=qB hrows h
  rw[Nat.zero_add] at this
  rw[hl];exact⟨this.1,_,this.2,dP.refl _⟩
 ·intro r h1 h2
  rw[hm] at h1;omega
 ·rintro x H1 ⟨tl,rfl,rfl⟩
  rw[e1]
  refine⟨hX,fun r hr=> ?_⟩
  rw[hm] at hr
  have bb:r<rows.length:=by omega
  refine⟨by simp;omega,?_⟩
  have:cX (rows++tl) r=rows[r]:=by
   unfold cX
   rw[bS,List.getElem?_append_left bb,List.getElem?_eq_getElem bb]
  rw[this]
  exact qB hr2 (List.getElem?_eq_getElem bb)
 ·rintro v us ⟨x0,H1,⟨tl,rfl,rfl⟩,rfl,rfl⟩
  rw[yx (fun r hr=>by rw[hm] at hr;omega)]
  exact hK
theorem qC{B:(Ex→St→Prop)→St→Prop}{Q:Ex→St→Prop}{s:St}{σ:Type}(I:σ→St)(μ:σ→Nat)(x0:σ)(hT:iy s.t (I x0).t)(hH:gZ s.H (I x0).H)(h:∀x,B (xT I μ x Q) (I x)):nE B Q s:=by
 unfold nE
 exact⟨σ,I,μ,x0,oG hT hH,h⟩
/-! a loop, by what its body turns -/
def hY:List Nat→List AV→List AV
 | [],t=>t
 | a::as,t=>hY as (aH t a .any)
def hZ:List (Nat×AV)→List AV→List AV
 | [],t=>t
 | (a,x)::l,t=>hZ l (aH t a x)
def jA(v:Nat→Nat)(p:Nat):List Nat→List U→List U
 | [],H=>H
 | a::as,H=>jA v p as (aH H (p+a) ⟨v (p+a),.dead⟩)
def jB:List (Nat×U)→List U→List U
 | [],H=>H
 | (r,e)::l,H=>jB l (aH H r e)
def dt{σ:Type}(p:Nat)(as:List Nat)(ts:σ→List (Nat×AV))(hs:σ→List (Nat×U))(t:List AV)(H:List U)(y:σ)(v:Nat→Nat):St:=⟨hZ (ts y) (hY as t),jB (hs y) (jA v p as H)⟩
def qD{σ:Type}{Inv:σ→Prop}(μ:σ→Nat)(p:Nat)(as:List Nat)(ts:σ→List (Nat×AV))(hs:σ→List (Nat×U))(t:List AV)(H:List U)(x:{y:σ×(Nat→Nat)//Inv y.1})(Q:Ex→St→Prop):Ex→St→Prop:=
 xT (fun y:{y:σ×(Nat→Nat)//Inv y.1}=>dt p as ts hs t H y.1.1 y.1.2) (fun y=>μ y.1.1) x Q
theorem bh {B : (Ex → St → Prop) → St → Prop} {Q : Ex → St → Prop} {t : List AV} {H : List U} {σ : Type} (Inv : σ → Prop) (μ : σ → Nat) (p : Nat) (as : List Nat) (ts : σ → List (Nat × AV)) (hs : σ → List (Nat × U)) (x0 : σ) (h0 : Inv x0)
    (hT:iy t (dt p as ts hs t H x0 (fun r=>(cX H r).ver)).t) (hH:gZ H (dt p as ts hs t H x0 (fun r=>(cX H r).ver)).H)
    (h:∀(x:σ)(v:Nat→Nat)(hx:Inv x),B (qD μ p as ts hs t H ⟨(x,v),hx⟩ Q) (dt p as ts hs t H x v)):nE B Q ⟨t,H⟩:=
 qC (fun y:{y:σ×(Nat→Nat)//Inv y.1}=>dt p as ts hs t H y.1.1 y.1.2) (fun y=>μ y.1.1) ⟨(x0,fun r=>(cX H r).ver),h0⟩ hT hH fun⟨(x,v),hx⟩=>h x v hx
theorem aM {σ : Type} {Inv : σ → Prop} {μ : σ → Nat} {p : Nat} {as : List Nat} {ts : σ → List (Nat × AV)} {hs : σ → List (Nat × U)} {t : List AV} {H : List U} {x : {y : σ × (Nat → Nat) // Inv y.1}} {Q : Ex → St → Prop} {s : St} (y : σ) (hI : Inv y) (I2 : μ y < μ x.1.1)
    (hT:iy s.t (dt p as ts hs t H y (fun r=>(cX s.H r).ver)).t) (hH:gZ s.H (dt p as ts hs t H y (fun r=>(cX s.H r).ver)).H):qD μ p as ts hs t H x Q .normal s:=⟨⟨(y,fun r=>(cX s.H r).ver),hI⟩,oG hT hH,I2⟩
end Go.Proofs.YtpbpiehcchannaaGreatDoor

/-! Functions that make a row. Conditions: none. -/
namespace Go.Proofs.YtpbpiehcchannaaGreatDoor
set_option linter.unusedVariables false
set_option linter.unusedSimpArgs false
open Go.RowKit
def cU(sg dl:List Nat):Ren:=⟨fun r=>rl.ck sg r,fun r=>rl.ck dl r⟩
theorem CM{R:Ren}{H:List U}:∀(a b:List Nat),dQ R H (a++b)=dQ R H a++dQ R H b
 | [],b=>rfl
 | x::a,b=>by simp only[List.cons_append,dQ,CM a b]
def mH:List U→Nat→List Nat
 | [],_=>[]
 | _::xs,n=>n::mH xs (n+1)
theorem CN:∀(l:List U)(n:Nat),mH l n=List.range' n l.length
 | [],n=>rfl
 | x::l,n=>by rw[mH,CN l (n+1)];rfl
end Go.Proofs.YtpbpiehcchannaaGreatDoor

/-! Functions that make several rows; nil slices as own rows without a block. Conditions: none. -/
namespace Go.Proofs.YtpbpiehcchannaaGreatDoor
set_option linter.unusedVariables false
set_option linter.unusedSimpArgs false
open Go.RowKit
section
variable {P:Program}
def iz(r v':Nat):List AV→List AV→Prop
 | [],[]=>True
 | x::xs,y::ys=>(y= .any∨x=y∨(∃sz,x= .val (.slice none 0 0)∧y= .own r v' sz 0 0))∧iz r v' xs ys
 | _,_=>False
theorem yy{r v':Nat}:∀{xs ys:List AV},iz r v' xs ys→xs.length=ys.length∧∀(i:Nat) y,ys[i]? =some y→y= .any∨∃x,xs[i]? =some x∧(x=y∨(∃sz,x= .val (.slice none 0 0)∧y= .own r v' sz 0 0))
 | [],[],_=>⟨rfl,by simp⟩
 | [],_::_,h=>h.elim
 | _::_,[],h=>h.elim
 | x::xs,y::ys,h=>by
  obtain⟨h1,h2⟩:=yy h.2
  refine⟨by simp[h1],fun i z hz=> ?_⟩
  cases i with
  | zero=>
   simp at hz;subst hz
   rcases h.1 with h | h | h
   ·exact .inl h
   ·exact .inr ⟨x,rfl,.inl h⟩
   ·exact .inr ⟨x,rfl,.inr h⟩
  | succ i=>simpa using h2 i z (by simpa using hz)
theorem ia{s:St}{t':List AV}(r v':Nat)(bd':Bd){e:U}(hr:aT s.H r=some e)(hv:e.ver<v')(hc:bd'.count=0)(ht:iz r v' s.t t'):gK s ⟨t',aH s.H r ⟨v',bd'⟩⟩:=by
 intro w0 keep E a w hR
 rw[bS] at hr
 obtain⟨h1,h2⟩:=yy ht
 have cY:=(List.getElem?_eq_some_iff.1 hr).1
 have gh:=hR.hr.ver r e hr
 obtain⟨E',aR⟩:∃E':Env,E'={E with ver:=fun k=>if k=r then v' else E.ver k,abs:=fun k=>if k=r then True else E.abs k}:=⟨_,rfl⟩
 have ev:E'.ver r=v':=by subst aR;simp
 have ky:∀k,k≠r→E'.ver k=E.ver k:=by intro k hk;subst aR;simp[hk]
 have ea:E'.abs r:=by subst aR;simp
 have iX:∀k,k≠r→(E'.abs k↔E.abs k):=by intro k hk;subst aR;simp[hk]
 have er:∀k,E'.ρ k=E.ρ k:=by intro k;subst aR;rfl
 have ez:∀z b,E'.aD z b↔E.aD z b:=by intro z b;subst aR;exact Iff.rfl
 have X:Ext E E' w w:=by
  refine⟨fun k=> ?_,fun k _=>er k,fun k hk=> ?_,fun z b h=>(ez z b).2 h,fun _ _ _=>rfl,fun k cur T fz h=>⟨cur,T,fz,h,Nat.le_refl _⟩,fun _ _ _ _ h=>by subst aR;exact h⟩
  ·by_cases q:k=r
   ·subst q;omega
   ·rw[ky k q];exact Nat.le_refl _
  ·by_cases q:k=r
   ·subst q;omega
   ·exact iX k q
 have aL:∀(k:Nat)(e':U),(aH s.H r ⟨v',bd'⟩)[k]? =some e'→k=r∧e'=⟨v',bd'⟩∨k≠r∧s.H[k]? =some e':=by
  intro k e' h
  rw[bI,List.getElem?_set] at h
  by_cases q:r=k
  ·subst q
   rw[if_pos rfl,if_pos cY] at h
   exact .inl ⟨rfl,(Option.some.inj h).symm⟩
  ·rw[if_neg q] at h
   exact .inr ⟨fun h=>q h.symm,h⟩
 have cn:∀(k:Nat)(e':U),(aH s.H r ⟨v',bd'⟩)[k]? =some e'→bH E' k e'→k≠r∧s.H[k]? =some e'∧bH E k e':=by
  intro k e' h hl
  rcases aL k e' h with⟨rfl,rfl⟩ | ⟨q1,q2⟩
  ·exact absurd ea hl.2
  ·exact⟨q1,q2,hl.1,fun q=>hl.2 ((iX k q1).2 q)⟩
 have hblk:∀(k:Nat)(e':U)(b:Nat),(aH s.H r ⟨v',bd'⟩)[k]? =some e'→aE E' k e' b→k≠r∧s.H[k]? =some e'∧aE E k e' b:=by
  intro k e' b h hb
  rcases hb with⟨hl,h3⟩ | ⟨h3,h4⟩
  ·obtain⟨q1,q2,q3⟩:=cn k e' h hl
   exact⟨q1,q2,.inl ⟨q3,by rwa [er] at h3⟩⟩
  ·rcases aL k e' h with⟨rfl,rfl⟩ | ⟨q1,q2⟩
   ·exfalso;cases bd'<;>first | (simp[Bd.count] at hc;done) | (simp[Bd.jq] at h3;done)
   ·exact⟨q1,q2,.inr ⟨h3,by subst aR;exact h4⟩⟩
 refine⟨E',⟨by rw[←h1];exact hR.len,fun i y hy=> ?_,⟨hR.defers.1,hR.defers.2.ext X⟩,⟨?_,?_,?_,?_,?_,?_,?_,hR.hr.gl.ext X,?_⟩,⟨hR.fr.os,hR.fr.tape,hR.fr.output,hR.fr.size,hR.fr.block,hR.fr.grow,?_⟩,hR.ext.trans X,fun z b h=>hR.aD z b ((ez z b).1 h),?_⟩⟩
 ·rcases h2 i y hy with rfl | ⟨x,hx,rfl | ⟨sz,rfl,rfl⟩⟩
  ·simp only[ah]
  ·exact eF X _ _ (hR.tmps i _ hx)
  ·have:=aY (hR.tmps i _ hx)
   rw[this,ah]
   exact⟨by omega,fun _=>⟨none,0,rfl,Nat.le_refl _,Nat.zero_le _,fun _=>rfl,.inl rfl⟩⟩
 ·intro k e' h
  rcases aL k e' h with⟨rfl,rfl⟩ | ⟨q1,q2⟩
  ·exact ev
  ·rw[ky k q1];exact hR.hr.ver k e' q2
 ·intro k e' h hl
  obtain⟨q1,q2,q3⟩:=cn k e' h hl
  rw[er];exact(hR.hr.bM k e' q2 q3).ext X rfl
 ·intro k e' h ha
  rcases aL k e' h with⟨rfl,rfl⟩ | ⟨q1,q2⟩
  ·exact hc
  ·exact hR.hr.abs k e' q2 ((iX k q1).1 ha)
 ·intro k k' e1 e2 b h h' hl bu
  obtain⟨q1,q2,q3⟩:=hblk k e1 b h hl
  obtain⟨q4,q5,q6⟩:=hblk k' e2 b h' bu
  exact hR.hr.inj k k' e1 e2 b q2 q5 q3 q6
 ·exact fun z b h=>hR.hr.cJ z b ((ez z b).1 h)
 ·intro k e' b h hl z hz
  obtain⟨q1,q2,q3⟩:=hblk k e' b h hl
  exact hR.hr.dj k e' b q2 q3 z ((ez z _).1 hz)
 ·intro k hk
  rw[bI,List.length_set] at hk
  have aF:k≠r:=by omega
  rw[ky k aF,iX k aF]
  exact hR.hr.top k hk
 ·intro k v ls h
  rcases aL k _ h with⟨rfl,h1⟩ | ⟨q1,q2⟩
  ·cases h1;simp[Bd.count] at hc
  ·have:=hR.hr.aB k v ls q2
   subst aR;exact this
 ·intro k e' b h hl ai
  obtain⟨q1,q2,q3⟩:=hblk k e' b h hl
  exact hR.fr.rows k e' b q2 q3 ai
 ·intro k e' b h hl
  obtain⟨q1,q2,q3⟩:=hblk k e' b h hl
  exact hR.rows k e' b q2 q3
theorem lO(s:St):gK s s:=fun _ _ E _ _ h=>⟨E,h⟩
theorem I3{s:St}{H':List U}(hlen:H'.length=s.H.length)(hw:∀(k:Nat)(e:U),H'[k]? =some e→∃e0:U,s.H[k]? =some e0∧dP e0 e):gK s ⟨s.t,H'⟩:=by
 intro w0 keep E a w hR
 have sH:∀(k:Nat)(e:U),H'[k]? =some e→bH E k e→∃e0:U,s.H[k]? =some e0∧dP e0 e∧bH E k e0:=fun k e h hl=>by
  obtain⟨e0,h1,h2⟩:=hw k e h
  exact⟨e0,h1,h2,h2.2.1 hl.1,hl.2⟩
 refine⟨E,⟨hR.len,hR.tmps,hR.defers,⟨fun k e h=> ?_,fun k e h hl=> ?_,fun k e h ha=> ?_,fun k k' e e' b h h' hl bu=> ?_,hR.hr.cJ,fun k e b h hl=> ?_,fun k hk=>hR.hr.top k (by rw[hlen] at hk;exact hk),hR.hr.gl,fun k v ls h=> ?_⟩,⟨hR.fr.os,hR.fr.tape,hR.fr.output,hR.fr.size,hR.fr.block,hR.fr.grow,fun k e b h hl=> ?_⟩,hR.ext,hR.aD,fun k e b h hl=> ?_⟩⟩
 ·obtain⟨e0,h1,h2⟩:=hw k e h
  rw[hR.hr.ver k e0 h1,h2.1]
 ·obtain⟨e0,h1,h2,h3⟩:=sH k e h hl
  exact h2.2.2.2.1 hl.1 E w _ (hR.hr.bM k e0 h1 h3)
 ·obtain⟨e0,h1,h2⟩:=hw k e h
  exact h2.2.2.1 (hR.hr.abs k e0 h1 ha)
 ·obtain⟨e0,h1,h3⟩:=hw k e h
  obtain⟨e1,g1,g3⟩:=hw k' e' h'
  exact hR.hr.inj k k' e0 e1 b h1 g1 (h3.aO hl) (g3.aO bu)
 ·obtain⟨e0,h1,h3⟩:=hw k e h
  exact hR.hr.dj k e0 b h1 (h3.aO hl)
 ·obtain⟨e0,h1,h3⟩:=hw k _ h
  exact hR.hr.aB k e0.ver ls (by rw[h1,←h3.2.2.2.2 ls rfl])
 ·obtain⟨e0,h1,h3⟩:=hw k e h
  exact hR.fr.rows k e0 b h1 (h3.aO hl)
 ·obtain⟨e0,h1,h3⟩:=hw k e h
  exact hR.rows k e0 b h1 (h3.aO hl)
theorem CO{s:St}(r:Nat){e0:U}(e:U)(hr:aT s.H r=some e0)(hw:dP e0 e):gK s ⟨s.t,aH s.H r e⟩:=by
 rw[bS] at hr
 refine I3 (by rw[bI,List.length_set]) fun k x hx=> ?_
 rw[bI,List.getElem?_set] at hx
 by_cases q:r=k
 ·subst q
  rw[if_pos rfl,if_pos (List.getElem?_eq_some_iff.1 hr).1] at hx
  obtain rfl:=Option.some.inj hx
  exact⟨e0,hr,hw⟩
 ·rw[if_neg q] at hx
  exact⟨x,hx,dP.refl x⟩
theorem oQ{a b c:St}(h:gK a b)(k:gK b c):gK a c:=fun w0 keep E a w hR=>by
 obtain⟨E1,h1⟩:=h w0 keep E a w hR
 exact k w0 keep E1 a w h1
def I4(tb:TypeId→Option TI)(rs:List ResultVar)(post:AV→List U→Prop)(e:Ex)(s:St):Prop:=∃s',gK s s'∧sj tb rs post e s'
theorem nM {tb : TypeId → Option TI} (aA : cj P tb) {f : FuncId} {fn : Func} {c : Code} {n : Nat} {rs : List ResultVar} (hf : P.funcs[f]? = some fn) (hb : fn.body = some c) (hn : fn.ntmps = n) (kR : fn.results = rs.toArray)
    {args:List AV} {H0:List U} {post:AV→List U→Prop} (h:fm tb P H0.length c (I4 tb rs fun x H=>H0.length≤H.length∧post x H) ⟨args++cN (n - args.length),H0++cx n⟩) (sk:ec c=true:=by kernel_rfl):Spec P f args H0 post:=by
 intro w E cargs hr cr
 refine calls_of_wp hf hb (wp_mono (xU (keep:=nF E H0 True) aA h (fun _=>sk) (uA hn hr cr n True)) ?_)
 rintro e a w' ⟨ex,s0,E0,rfl,oF,s,hle,hQ⟩
 obtain⟨E',hR⟩:=hle _ _ _ _ _ oF
 obtain⟨hex,v,x,h1,h2,h3⟩:=uz aA kR hQ hR
 have hx:Ext E E' w w':=hR.ext
 rcases hex with rfl | rfl
 ·exact⟨hR.defers.1 trivial,v,h1,v,x,s.H,E',rfl,h3.2,h2,hR.hr,hx,hR.aD,h3.1,hR.rows,hR.fr⟩
 ·exact⟨hR.defers.1 trivial,v,h1,v,x,s.H,E',rfl,h3.2,h2,hR.hr,hx,hR.aD,h3.1,hR.rows,hR.fr⟩
/-! several rows -/
def allM(H:List U):List (Nat×U)→Prop
 | []=>True
 | (q,e)::ms=>aT H q=some e∧allM H ms
def ak(X:AV)(rows:List U)(mk:List (Nat×U)):AV→List U→Prop:=fun x H=>∃tl,x=X∧H=rows++tl∧allM H mk
def iY(p:Nat)(ids:List Nat)(r:Nat):Bool:=Nat.blt r p||ids.contains r
def bT:List (Nat×U)→List Nat
 | []=>[]
 | (q,_)::ms=>q::bT ms
def ib(hg:Nat→Option U)(sg dl:List Nat):List (Nat×U)→Prop
 | []=>True
 | (q,_)::ms=>(∃e,hg (rl.ck sg q)=some e∧e.ver<rl.ck dl q)∧ib hg sg dl ms
def ic(D:Nat→Prop):List (Nat×U)→Prop
 | []=>True
 | (_,e)::ms=>c8 D e.bd∧ic D ms
def mI(sg dl:List Nat):List (Nat×U)→List (Nat×U)
 | []=>[]
 | (q,e)::ms=>(rl.ck sg q,⟨e.ver+rl.ck dl q,bL (cU sg dl) e.bd⟩)::mI sg dl ms
theorem uU{H:List U}:∀{ms:List (Nat×U)},allM H ms→∀q,q∈bT ms→∃e,(q,e)∈ms∧aT H q=some e
 | (q',e)::ms,h,q,hq=>by
  simp only[bT,List.mem_cons] at hq
  rcases hq with rfl | hq
  ·exact⟨e,by simp,h.1⟩
  ·obtain⟨e',h1,h2⟩:=uU h.2 q hq
   exact⟨e',by simp[h1],h2⟩
theorem CP{hg:Nat→Option U}{sg dl:List Nat}:∀{ms:List (Nat×U)},ib hg sg dl ms→∀q,q∈bT ms→∃e,hg (rl.ck sg q)=some e∧e.ver<rl.ck dl q
 | (q',e)::ms,h,q,hq=>by
  simp only[bT,List.mem_cons] at hq
  rcases hq with rfl | hq
  ·exact h.1
  ·exact CP h.2 q hq
theorem CQ{D:Nat→Prop}:∀{ms:List (Nat×U)},ic D ms→∀q e,(q,e)∈ms→c8 D e.bd
 | (q',e')::ms,h,q,e,hq=>by
  simp only[List.mem_cons,Prod.mk.injEq] at hq
  rcases hq with⟨rfl,rfl⟩ | hq
  ·exact h.1
  ·exact CQ h.2 q e hq
theorem CR{sg dl:List Nat}{H:List U}:∀{ms:List (Nat×U)},allM H ms→dQ (cU sg dl) H (bT ms)=mI sg dl ms
 | [],_=>rfl
 | (q,e)::ms,h=>by
  have:cX H q=e:=by unfold cX;rw[h.1]
  simp only[bT,dQ,mI,this,CR h.2]
  rfl
theorem CS {f : FuncId} {cO : List AV} {H0 : List U} {X : AV} {rows : List U} {mk : List (Nat × U)} (S : Spec P f cO H0 (ak X rows mk)) (eK : ∀ (fS : Array Value) (w : World), (callFunc f fS).run P w = .ok (.enter f fS) w)
    (p:Nat) (sg dl ids:List Nat) (gw:bT mk=ids) (hl:H0.length=p) (lN:rows.length=p) (bW:(List.range p++ids).Nodup) (hz:∀r,r<p→rl.ck dl r=0)
    (hC:((List.range p++ids).map (rl.ck sg)).Nodup) {args caps:List AV} {hg:Nat→Option U} (cr:args++caps=b7 (cU sg dl) cO)
    (hon:cT (· <p) cO) (hrows:dr (fun r e=>c8 (· <p) e.bd∧∃e',hg (rl.ck sg r)=some e'∧dP e' ⟨e.ver,bL (cU sg dl) e.bd⟩) H0 0) (had:ib hg sg dl mk)
    (hX:cL (fun r=>iY p ids r=true) X) (hr2:dr (fun _ e=>c8 (fun r=>iY p ids r=true) e.bd) rows 0) (he:ic (fun r=>iY p ids r=true) mk) {K:AV→List (Nat×U)→Prop}
    (hK:K (bx (cU sg dl) X) (dQ (cU sg dl) rows (mH rows 0)++mI sg dl mk)):
    eV P (.clo f caps) args hg K:=by
 subst gw
 have hm:∀r,r∈List.range p++bT mk↔iY p (bT mk) r=true:=fun r=>by
  simp only[List.mem_append,List.mem_range,iY,Bool.or_eq_true,List.contains_iff_mem]
  rw[show(Nat.blt r p=true)=(r<p) from by simp[Nat.blt];rfl]
 have e1:(fun r=>r∈List.range p++bT mk)=(fun r=>iY p (bT mk) r=true):=by funext r;exact propext (hm r)
 have bV:∀r,r∈List.range p++bT mk→r<p∨r∈bT mk:=fun r h=>by simpa using h
 refine x5 (Cb S eK (cU sg dl) (List.range p++bT mk) bW ?_ ?_ cr ?_ ?_ ?_ ?_) ?_
 ·intro r h;exact⟨by simp;omega,hz r (by omega)⟩
 ·intro a b ha hb h
  obtain⟨i,hi,rfl⟩:=List.getElem_of_mem ha
  obtain⟨j,hj,rfl⟩:=List.getElem_of_mem hb
  have hp:=List.pairwise_iff_getElem.1 hC
  rcases Nat.lt_trichotomy i j with q | q | q
  ·have:=hp i j (by simpa using hi) (by simpa using hj) q
   rw[List.getElem_map,List.getElem_map] at this
   exact absurd h this
  ·subst q;rfl
  ·have:=hp j i (by simpa using hj) (by simpa using hi) q
   rw[List.getElem_map,List.getElem_map] at this
   exact absurd h.symm this
 ·rw[hl];exact hon
 ·intro r e h
  have:=qB hrows h
  rw[Nat.zero_add] at this
  rw[hl];exact this
 ·intro r h1 h2
  rcases bV r h1 with h | h
  ·omega
  ·exact CP had r h
 ·rintro x H1 ⟨tl,rfl,rfl,yz⟩
  rw[e1]
  refine⟨hX,fun r hr=> ?_⟩
  rcases bV r hr with h | h
  ·have bb:r<rows.length:=by omega
   refine⟨by simp;omega,?_⟩
   have:cX (rows++tl) r=rows[r]:=by
    unfold cX
    rw[bS,List.getElem?_append_left bb,List.getElem?_eq_getElem bb]
   rw[this]
   exact qB hr2 (List.getElem?_eq_getElem bb)
  ·obtain⟨e,h1,h2⟩:=uU yz r h
   refine⟨?_,?_⟩
   ·rw[bS] at h2;exact(List.getElem?_eq_some_iff.1 h2).1
   ·have:cX (rows++tl) r=e:=by unfold cX;rw[h2]
    rw[this];exact CQ he r e h1
 ·rintro v us ⟨x0,H1,⟨tl,rfl,rfl,yz⟩,rfl,rfl⟩
  rw[CM,yx (fun r hr=>by rw[List.mem_range] at hr;omega),CR yz]
  rw[CN,lN,←List.range_eq_range'] at hK
  exact hK
theorem I5 {f : FuncId} {cO : List AV} {H0 : List U} {X : AV} {rows : List U} {mk : List (Nat × U)} (S : Spec P f cO H0 (ak X rows mk)) (eK : ∀ (fS : Array Value) (w : World), (callFunc f fS).run P w = .ok (.enter f fS) w)
    (p:Nat) (sg dl ids:List Nat) (gw:bT mk=ids) (hl:H0.length=p) (lN:rows.length=p) (bW:(List.range p++ids).Nodup) (hz:∀r,r<p→rl.ck dl r=0)
    (hC:((List.range p++ids).map (rl.ck sg)).Nodup) {args caps:List AV} {hg:Nat→Option U} (cr:args++caps=b7 (cU sg dl) cO)
    (hon:cT (· <p) cO) (hrows:dr (fun r e=>c8 (· <p) e.bd∧hg (rl.ck sg r)=some ⟨e.ver,bL (cU sg dl) e.bd⟩) H0 0) (had:ib hg sg dl mk)
    (hX:cL (fun r=>iY p ids r=true) X) (hr2:dr (fun _ e=>c8 (fun r=>iY p ids r=true) e.bd) rows 0) (he:ic (fun r=>iY p ids r=true) mk) {K:AV→List (Nat×U)→Prop}
    (hK:K (bx (cU sg dl) X) (dQ (cU sg dl) rows (mH rows 0)++mI sg dl mk)):
    eV P (.clo f caps) args hg K:=
 CS S eK p sg dl ids gw hl lN bW hz hC cr hon (CJ (fun r e h=>⟨h.1,_,h.2,dP.refl _⟩) hrows) had hX hr2 he hK
end
end Go.Proofs.YtpbpiehcchannaaGreatDoor

/-! A function that is known for plain values may be asked with what the caller owns. Conditions: none. -/
namespace Go.Proofs.YtpbpiehcchannaaGreatDoor
set_option linter.unusedVariables false
set_option linter.unusedSimpArgs false
open Go.RowKit
mutual
def mJ:AV→Prop
 | .any=>True
 | .val v=>True
 | .agg l=>lP l
 | .al l=>lP l
 | .bs z l=>False
 | .sl z sz f d l=>False
 | .own r ver sz off n=>True
 | .ref r ver sz i j=>True
 | .cp z cells j=>False
 | .clo f caps=>lP caps
 | .fI r ver=>True
 | .pl r ver i off n=>True
 | .gU r ver i k=>True
 | .gd φ x=>mJ x
def lP:List AV→Prop
 | []=>True
 | x::xs=>mJ x∧lP xs
end
def kU:Bd→Prop
 | .dead=>True
 | .bytes l=>True
 | .row sz f d l=>∀a,lP (f a)
 | .obj l=>lP l
 | .lp .. =>False
 | .aB _=>True
structure oR(R:Ren)(E Ec:Env):Prop where
 ver:∀r,Ec.ver (R.σ r)=E.ver r+R.δ r
 di:∀r,Ec.ρ (R.σ r)=E.ρ r
 abs:∀r,(Ec.abs (R.σ r)↔E.abs r)
 pl:∀r,Ec.pl (R.σ r)=E.pl r
theorem oR.aO{R:Ren}{E Ec:Env}(C:oR R E Ec)(r:Nat)(e:U)(v b:Nat):aE E r e b↔aE Ec (R.σ r) ⟨v,bL R e.bd⟩ b:=by
 unfold aE bH
 simp only[(iU (R:=R) (b:=e.bd)).2.2,B6,C.di r,C.abs r,C.pl r]
mutual
theorem uV{R:Ren}{E Ec:Env}{w:World}(C:oR R E Ec):∀(x:AV)(v:Value),mJ x→ah E w x v→ah Ec w (bx R x) v
 | .any,v,_,h=>by simp only[bx,ah]
 | .val u,v,_,h=>by simp only[bx,ah] at h⊢;exact h
 | .agg l,v,hz,h=>by
  simp only[bx,ah] at h⊢
  obtain⟨cs,rfl,h⟩:=h
  exact⟨cs,rfl,sI C l cs hz h⟩
 | .al l,v,hz,h=>by
  simp only[bx,ah] at h⊢
  obtain⟨cs,rfl,h⟩:=h
  exact⟨cs,rfl,sI C l cs hz h⟩
 | .bs z l,v,hz,_=>hz.elim
 | .sl z sz f d l,v,hz,_=>hz.elim
 | .own r ver sz off n,v,hz,h=>by
  simp only[bx,ah,C.ver,C.di,C.abs] at h⊢
  exact⟨by omega,fun e=>h.2 (by omega)⟩
 | .ref r ver sz i j,v,hz,h=>by
  simp only[bx,ah,C.ver,C.di] at h⊢
  exact⟨by omega,fun e=>h.2 (by omega)⟩
 | .cp z cells j,v,hz,_=>hz.elim
 | .clo f caps,v,hz,h=>by
  simp only[bx,ah] at h⊢
  obtain⟨cs,rfl,h⟩:=h
  exact⟨cs,rfl,sI C caps cs hz h⟩
 | .fI r ver,v,hz,h=>by
  simp only[bx,ah,C.ver,C.di] at h⊢
  exact⟨by omega,fun e=>h.2 (by omega)⟩
 | .pl r ver i off n,v,hz,h=>by
  simp only[bx,ah,C.ver,C.pl] at h⊢
  exact⟨by omega,fun e=>h.2 (by omega)⟩
 | .gU r ver i k,v,hz,h=>by
  simp only[bx,ah,C.ver,C.pl] at h⊢
  exact⟨by omega,fun e=>h.2 (by omega)⟩
 | .gd φ x,v,hz,h=>by
  simp only[bx,ah] at h⊢
  exact⟨fun p=>uV C x v hz (h.1 p),h.2⟩
theorem sI{R:Ren}{E Ec:Env}{w:World}(C:oR R E Ec):∀(xs:List AV)(vs:List Value),lP xs→aw E w xs vs→aw Ec w (b7 R xs) vs
 | [],vs,_,h=>by simp only[b7,aw] at h⊢;exact h
 | x::xs,vs,hz,h=>by
  simp only[b7,aw] at h⊢
  obtain⟨v,cQ,rfl,h1,h2⟩:=h
  exact⟨v,cQ,rfl,uV C x v hz.1 h1,sI C xs cQ hz.2 h2⟩
end
theorem CT{bd:Bd}(h:kU bd){i:Nat}{ys:List AV}(hy:bd.at i=some ys):lP ys:=by
 cases bd with
 | dead=>simp[Bd.at] at hy
 | bytes l=>
  simp only[Bd.at,Option.map_eq_some_iff] at hy
  obtain⟨b,_,rfl⟩:=hy
  simp[lP,mJ]
 | row sz f d l=>
  simp only[Bd.at,Option.map_eq_some_iff] at hy
  obtain⟨b,_,rfl⟩:=hy
  exact h b
 | obj l=>
  simp only[Bd.at] at hy
  split at hy
  ·cases hy;exact h
  ·cases hy
 | lp=>simp[Bd.at] at hy
 | aB=>simp[Bd.at] at hy
theorem fx.CU{R:Ren}{E Ec:Env}{w:World}(C:oR R E Ec){b:Nat}{bd:Bd}(hz:kU bd)(h:fx E w b bd):fx Ec w b (bL R bd):=by
 obtain⟨e1,e2,e3⟩:=iU (R:=R) (b:=bd)
 refine⟨fun hl=> ?_,fun i tR st e=>by cases bd<;>first | exact(show False from hz).elim | cases e⟩
 obtain⟨cur,T,lo,hi,h1,h2,h3,h4⟩:=h.aO (by rwa [xY] at hl)
 refine⟨cur,T,lo,hi,h1,h2,by rw[e1,e2];exact h3,fun i ys hy=> ?_⟩
 rw[xX] at hy
 obtain⟨eT,gI,rfl⟩:=Option.map_eq_some_iff.1 hy
 obtain⟨cs,h5,h6,h7⟩:=h4 i eT gI
 rw[e1]
 exact⟨cs,h5,sI C _ _ (CT hz gI) h6,h7⟩
def kz(n:Nat):Ren:=⟨fun r=>r+n,fun _=>0⟩
def oS(n:Nat):List (Nat×U)→List (Nat×U)
 | []=>[]
 | (q,e)::ms=>(q+n,⟨e.ver,bL (kz n) e.bd⟩)::oS n ms
def sJ:List (Nat×U)→Prop
 | []=>True
 | (_,e)::ms=>kU e.bd∧sJ ms
theorem yA:∀{ms:List (Nat×U)},sJ ms→∀q e,(q,e)∈ms→kU e.bd
 | (q',e')::ms,h,q,e,hq=>by
  simp only[List.mem_cons,Prod.mk.injEq] at hq
  rcases hq with⟨rfl,rfl⟩ | hq
  ·exact h.1
  ·exact yA h.2 q e hq
def kV(n:Nat)(ids:List Nat)(q:Nat)(e:U):U:=if q∈ids then⟨e.ver,bL (kz n) e.bd⟩ else⟨e.ver,.dead⟩
section
variable {P:Program}
theorem jY {f : FuncId} {cO : List AV} {X : AV} {mk : List (Nat × U)} (S : Spec P f cO [] (ak X [] mk)) (hX : mJ X) (lQ : sJ mk) {args : List AV} {rows : List U}
    (cr:∀(E E0:Env)(w:World)(vs:List Value),HR E w rows→(∀z b,E0.aD z b↔z=0∧b<w.heap.size)→aw E w args vs→aw E0 w cO vs):
    Spec P f args rows (ak (bx (kz rows.length) X) rows (oS rows.length mk)):=by
 intro w E cargs hr sm
 obtain⟨n,hn⟩:∃n,n=rows.length:=⟨_,rfl⟩
 rw[←hn]
 obtain⟨E0,gv⟩:∃E0:Env,E0={ρ:=fun r=>E.ρ (r+n),ver:=fun _=>0,aD:=fun z b=>z=0∧b<w.heap.size,abs:=fun _=>False,pl:=fun r=>E.pl (r+n)}:=⟨_,rfl⟩
 have iQ:∀z b,E0.aD z b↔z=0∧b<w.heap.size:=by subst gv;exact fun _ _=>Iff.rfl
 have sq:HR E0 w []:=by
  refine⟨by simp,by simp,by simp,by simp,fun z b h=>((iQ z b).1 h).2,by simp,fun r _=> ?_,fun g cs hg=>⟨(iQ 0 g).2 ⟨rfl,hr.cJ 0 g (hr.gl g cs hg).1⟩,(hr.gl g cs hg).2⟩,by simp⟩
  subst gv;exact⟨rfl,fun h=>h⟩
 refine Calls.mono (S w E0 cargs sq (cr E E0 w cargs hr iQ sm)) fun e w'⟨v,x,H1,E1,he,lJ,hv,cG,X1,mA,uC,nH,c9⟩=> ?_
 obtain⟨tl,kW,mr,iZ⟩:=lJ
 rw[List.nil_append] at mr
 have eI:∀k,k<w.heap.size→w'.heap[k]? =w.heap[k]?:=fun k hk=>X1.cell 0 k ((iQ 0 k).2 ⟨rfl,hk⟩)
 have ui:=c9.size
 have dY:∀(r:Nat)(e:U)(b:Nat),H1[r]? =some e→aE E1 r e b→w.heap.size≤b:=by
  intro r e b h1 h2
  rcases nH r e b h1 h2 with h | ⟨r0,e0,h,_⟩
  ·exact h
  ·simp at h
 have kA:=hr.top
 obtain⟨E',aR⟩:∃E':Env,E'={ρ:=fun k=>if k<n then E.ρ k else E1.ρ (k - n),ver:=fun k=>if k<n then E.ver k else E1.ver (k - n),aD:=E.aD,abs:=fun k=>if k<n then E.abs k else E1.abs (k - n),pl:=fun k=>if k<n then E.pl k else E1.pl (k - n)}:=⟨_,rfl⟩
 have lo:∀k,k<n→E'.ρ k=E.ρ k∧E'.ver k=E.ver k∧(E'.abs k↔E.abs k):=by intro k hk;subst aR;simp[hk]
 have hi:∀k,E'.ρ (k+n)=E1.ρ k∧E'.ver (k+n)=E1.ver k∧(E'.abs (k+n)↔E1.abs k):=by
  intro k;subst aR
  have:¬k+n<n:=by omega
  simp[this]
 have oT:∀k,k<n→E'.pl k=E.pl k:=by intro k hk;subst aR;simp[hk]
 have oU:∀k,E'.pl (k+n)=E1.pl k:=by
  intro k;subst aR
  have:¬k+n<n:=by omega
  simp[this]
 have bG:∀k,¬k<n→∃q,k=q+n:=fun k hk=>⟨k - n,by omega⟩
 have ez:∀z b,E'.aD z b↔E.aD z b:=by intro z b;subst aR;exact Iff.rfl
 have C:oR (kz n) E1 E':=⟨fun r=>(hi r).2.1,fun r=>(hi r).1,fun r=>(hi r).2.2,fun r=>oU r⟩
 have X:Ext E E' w w':=by
  refine⟨fun k=> ?_,fun k hk=> ?_,fun k hk=> ?_,fun z b h=>(ez z b).2 h,fun z b h=>eI b (hr.cJ z b h),fun k cur T fz h=> ?_,fun k hk i b hb=> ?_⟩
  ·by_cases q:k<n
   ·rw[(lo k q).2.1];exact Nat.le_refl _
   ·rw[(kA k (by omega)).1];exact Nat.zero_le _
  ·by_cases q:k<n
   ·exact(lo k q).1
   ·obtain⟨m,rfl⟩:=bG k q
    rw[(hi m).2.1,(kA (m+n) (by omega)).1] at hk
    have:=X1.di m (by rw[hk];subst gv;rfl)
    rw[(hi m).1,this];subst gv;rfl
  ·by_cases q:k<n
   ·exact(lo k q).2.2
   ·obtain⟨m,rfl⟩:=bG k q
    rw[(hi m).2.1,(kA (m+n) (by omega)).1] at hk
    have:=X1.abs m (by rw[hk];subst gv;rfl)
    rw[(hi m).2.2,this]
    have h2:=(kA (m+n) (by omega)).2
    subst gv
    exact⟨fun h=>h.elim,fun h=>(h2 h).elim⟩
  ·have ai:=(Array.getElem?_eq_some_iff.1 h).1
   exact⟨cur,T,fz,by rw[eI _ ai];exact h,Nat.le_refl _⟩
  ·by_cases q:k<n
   ·rw[oT k q];exact hb
   ·obtain⟨m,rfl⟩:=bG k q
    rw[(hi m).2.1,(kA (m+n) (by omega)).1] at hk
    rw[oU]
    exact X1.pl m (by rw[hk];subst gv;rfl) i b (by subst gv;exact hb)
 obtain⟨H',eS⟩:∃H':List U,H'=rows++(H1.mapIdx fun q e=>kV n (bT mk) q e):=⟨_,rfl⟩
 have get:∀(k:Nat)(e:U),H'[k]? =some e→(k<n∧rows[k]? =some e)∨(∃q e1,k=q+n∧H1[q]? =some e1∧e=kV n (bT mk) q e1):=by
  intro k e h
  rw[eS,List.getElem?_append] at h
  split at h
  ·rename_i q;exact .inl ⟨by omega,h⟩
  ·rename_i q
   rw[List.getElem?_mapIdx,Option.map_eq_some_iff] at h
   obtain⟨e1,h1,h2⟩:=h
   exact .inr ⟨k - rows.length,e1,by omega,h1,h2.symm⟩
 have told:∀{q:Nat}{e1:U},H1[q]? =some e1→(kV n (bT mk) q e1).bd.live=true→kV n (bT mk) q e1=⟨e1.ver,bL (kz n) e1.bd⟩∧kU e1.bd∧e1.bd.live=true:=by
  intro q e1 h1 hl
  unfold kV at hl⊢
  split at hl
  ·rename_i hq
   rw[if_pos hq]
   refine⟨rfl,?_,by rw[(iU (R:=kz n) (b:=e1.bd)).2.2] at hl;exact hl⟩
   obtain⟨e2,h2,h3⟩:=uU iZ q hq
   rw[bS,h1] at h3
   cases h3
   exact yA lQ q _ h2
  ·cases hl
 have yB:∀(q:Nat)(e1:U),(kV n (bT mk) q e1).ver=e1.ver:=by intro q e1;unfold kV;split<;>rfl
 have sH:∀(k:Nat)(e:U),H'[k]? =some e→bH E' k e→(k<n∧rows[k]? =some e∧bH E k e)∨(∃q e1,k=q+n∧H1[q]? =some e1∧bH E1 q e1∧e=⟨e1.ver,bL (kz n) e1.bd⟩∧kU e1.bd):=by
  intro k e h hl
  rcases get k e h with⟨h1,h2⟩ | ⟨q,e1,rfl,h2,rfl⟩
  ·exact .inl ⟨h1,h2,hl.1,fun a=>hl.2 ((lo k h1).2.2.2 a)⟩
  ·obtain⟨t1,t2,t3⟩:=told h2 hl.1
   exact .inr ⟨q,e1,rfl,h2,⟨t3,fun a=>hl.2 ((hi q).2.2.2 a)⟩,t1,t2⟩
 have aO:∀(k:Nat)(e:U)(b:Nat),H'[k]? =some e→aE E' k e b→(k<n∧rows[k]? =some e∧aE E k e b)∨(∃q e1,k=q+n∧H1[q]? =some e1∧aE E1 q e1 b):=by
  intro k e b h hb
  rcases get k e h with⟨h1,h2⟩ | ⟨q,e1,rfl,h2,rfl⟩
  ·refine .inl ⟨h1,h2,?_⟩
   unfold aE bH at hb⊢
   rwa [(lo k h1).1,(lo k h1).2.2,oT k h1] at hb
  ·refine .inr ⟨q,e1,rfl,h2,?_⟩
   unfold kV at hb
   split at hb
   ·exact(C.aO q e1 _ b).2 hb
   ·exact absurd hb aE.dead
 have sr:HR E' w' H':=by
  refine⟨?_,?_,?_,?_,?_,?_,?_,hr.gl.ext X,?_⟩
  ·intro k e h
   rcases get k e h with⟨h1,h2⟩ | ⟨q,e1,rfl,h2,rfl⟩
   ·rw[(lo k h1).2.1];exact hr.ver k e h2
   ·rw[(hi q).2.1,yB];exact cG.ver q e1 h2
  ·intro k e h hl
   rcases sH k e h hl with⟨h1,h2,h3⟩ | ⟨q,e1,rfl,h2,h3,rfl,h4⟩
   ·rw[(lo k h1).1]
    exact(hr.bM k e h2 h3).ext X (eI _ (hr.lt h2 h3))
   ·rw[(hi q).1]
    exact(cG.bM q e1 h2 h3).CU C h4
  ·intro k e h ha
   rcases get k e h with⟨h1,h2⟩ | ⟨q,e1,rfl,h2,rfl⟩
   ·exact hr.abs k e h2 ((lo k h1).2.2.1 ha)
   ·have:=cG.abs q e1 h2 ((hi q).2.2.1 ha)
    unfold kV;split
    ·rw[(iU (R:=kz n) (b:=e1.bd)).2.1];exact this
    ·rfl
  ·intro k k' e e' b h h' hl bu
   rcases aO k e b h hl with⟨h1,h2,h3⟩ | ⟨q,e1,rfl,h2,h3⟩<;>rcases aO k' e' b h' bu with⟨g1,g2,g3⟩ | ⟨q',oV,rfl,g2,g3⟩
   ·exact hr.inj k k' e e' b h2 g2 h3 g3
   ·have:=hr.blt h2 h3;have:=dY q' oV b g2 g3;omega
   ·have:=hr.blt g2 g3;have:=dY q e1 b h2 h3;omega
   ·rw[cG.inj q q' e1 oV b h2 g2 h3 g3]
  ·exact fun z b h=>Nat.lt_of_lt_of_le (hr.cJ z b ((ez z b).1 h)) ui
  ·intro k e b h hl z hz
   rcases aO k e b h hl with⟨h1,h2,h3⟩ | ⟨q,e1,rfl,h2,h3⟩
   ·exact hr.dj k e b h2 h3 z ((ez z _).1 hz)
   ·have:=hr.cJ z _ ((ez z _).1 hz);have:=dY q e1 b h2 h3;omega
  ·intro k hk
   rw[eS,List.length_append,List.length_mapIdx] at hk
   obtain⟨q,rfl⟩:=bG k (by omega)
   have:=cG.top q (by omega)
   rw[(hi q).2.1]
   exact⟨this.1,fun a=>this.2 ((hi q).2.2.1 a)⟩
  ·intro k v ls h
   rcases get k _ h with⟨h1,h2⟩ | ⟨q,e1,rfl,h2,h3⟩
   ·rw[oT k h1]
    exact(hr.aB k v ls h2).lx fun i b hb=>eI b (hr.blt h2 (.inr ⟨rfl,i,hb⟩))
   ·unfold kV at h3
    split at h3
    ·rw[oU]
     exact cG.aB q e1.ver ls (by rw[h2,←uB (U.mk.inj h3).2.symm])
    ·cases h3
 refine⟨v,bx (kz n) x,H',E',he,⟨_,by rw[kW],eS,?_⟩,?_,sr,X,fun z b h=> .inl ((ez z b).1 h),by rw[eS,List.length_append];omega,?_,⟨c9.os,c9.tape,c9.output,c9.size,fun k hk _=>eI k hk,fun k cur T fz h=>⟨cur,T,fz,by rw[eI k (Array.getElem?_eq_some_iff.1 h).1];exact h,Nat.le_refl _⟩,?_⟩⟩
 ·have key:∀(ms:List (Nat×U)),(∀q,q∈bT ms→q∈bT mk)→allM H1 ms→allM H' (oS n ms):=by
    intro ms
    induction ms with
    | nil=>intro _ _;trivial
    | cons m ms ih=>
     obtain⟨q,e⟩:=m
     intro kB hm
     refine⟨?_,ih (fun q' sK=>kB q' (by simp[bT,sK])) hm.2⟩
     have h1:=hm.1
     rw[bS] at h1
     rw[bS,eS,List.getElem?_append_right (by omega),List.getElem?_mapIdx,show q+n - rows.length=q by omega,h1]
     unfold kV
     simp[kB q (by simp[bT])]
  exact key mk (fun _ h=>h) iZ
 ·rw[kW]
  rw[kW] at hv
  exact uV C _ _ hX hv
 ·intro k e b h hl
  rcases aO k e b h hl with⟨h1,h2,h3⟩ | ⟨q,e1,rfl,h2,h3⟩
  ·exact .inr ⟨k,e,h2,h3⟩
  ·exact .inl (dY q e1 b h2 h3)
 ·intro k e b h hl ai
  rcases aO k e b h hl with⟨h1,h2,h3⟩ | ⟨q,e1,rfl,h2,h3⟩
  ·intro hk
   exact hk k e h2 h3
  ·have:=dY q e1 b h2 h3;omega
/-! how arguments read -/
def sL(rows:List U)(args cO:List AV):Prop:=∀(E E0:Env)(w:World)(vs:List Value),HR E w rows→(∀z b,E0.aD z b↔z=0∧b<w.heap.size)→aw E w args vs→aw E0 w cO vs
def As(rows:List U)(x x0:AV):Prop:=∀(E E0:Env)(w:World)(v:Value),HR E w rows→(∀z b,E0.aD z b↔z=0∧b<w.heap.size)→ah E w x v→ah E0 w x0 v
theorem fT{rows:List U}:sL rows [] []:=fun E E0 w vs _ _ h=>by rw[aw] at h⊢;exact h
theorem du{rows:List U}{x x0:AV}{xs sM:List AV}(h:As rows x x0)(k:sL rows xs sM):sL rows (x::xs) (x0::sM):=fun E E0 w vs hr hz hv=>by
 rw[aw] at hv⊢
 obtain⟨v,cQ,rfl,h1,h2⟩:=hv
 exact⟨v,cQ,rfl,h E E0 w v hr hz h1,k E E0 w cQ hr hz h2⟩
theorem lR{rows:List U}{u:Value}:As rows (.val u) (.val u):=fun E E0 w v _ _ h=>by rw[ah] at h⊢;exact h
theorem CV{E0:Env}{w:World}{v:Value}{l:List UInt8}(h:BS w v l)(hz:∀z b,E0.aD z b↔z=0∧b<w.heap.size)(I6:0<l.length→∀a n c,v= .slice (some a) n c→a.spot=none):ah E0 w (.bs 0 l) v:=by
 obtain⟨a,n,c,rfl,hS⟩:=h
 rw[ah]
 refine⟨a,n,c,rfl,hS.mK.symm,hS.le,hS.max,hS.nil,fun i x hx=> ?_⟩
 have hc:∀ad,a=some ad→w.cell? (ad.add i)=some (bv x):=fun ad had=>by
  have:=hS.cell ad had i (bv x) (by simp[de,hx])
  exact this
 cases a with
 | none=>
  have h1:=hS.nil rfl
  have h2:=hS.le
  have h3:=hS.mK
  have:=(List.getElem?_eq_some_iff.1 hx).1
  omega
 | some ad=>
  obtain⟨b,o,p⟩:=ad
  have hp:=I6 (Nat.lt_of_le_of_lt (Nat.zero_le _) (List.getElem?_eq_some_iff.1 hx).1) _ _ _ rfl
  simp only at hp
  subst hp
  have h1:=hc _ rfl
  rw[Addr.add_lit] at h1
  refine⟨b,o,rfl,(hz 0 b).2 ⟨rfl,?_⟩,h1⟩
  unfold World.cell? at h1
  simp only at h1
  cases hb:w.heap[b]? with
  | none=>simp[hb] at h1
  | some _=>exact(Array.getElem?_eq_some_iff.1 hb).1
theorem I7{rows:List U}:As rows (.val (.slice none 0 0)) (.bs 0 []):=fun E E0 w v _ hz h=>by
 rw[aY h]
 exact CV (BS.nil w) hz (fun _ _ _ _ h=>by cases h)
theorem qE{rows:List U}{z:Nat}{l:List UInt8}:As rows (.bs z l) (.bs 0 l):=fun E E0 w v hr hz h=>by
 rw[ah] at h⊢
 obtain⟨a,n,c,rfl,h1,h2,h3,h4,h5⟩:=h
 refine⟨a,n,c,rfl,h1,h2,h3,h4,fun i x hx=> ?_⟩
 obtain⟨b,o,h6,h7,h8⟩:=h5 i x hx
 exact⟨b,o,h6,(hz 0 b).2 ⟨rfl,hr.cJ z b h7⟩,h8⟩
theorem kC{rows:List U}{r ver off n:Nat}{l:List UInt8}(he:aT rows r=some ⟨ver,.bytes l⟩)(hle:off+n≤l.length):As rows (.own r ver 1 off n) (.bs 0 ((l.drop off).take n)):=fun E E0 w v hr hz h=>by
 rw[bS] at he
 have hb:=xA hr he rfl rfl hle h
 refine CV hb hz (fun kN a m c hv=> ?_)
 rw[ah] at h
 obtain⟨a',c',h1,h2,h3,h4,h5⟩:=h.2 (hr.ver r _ he).symm
 rw[hv] at h1
 cases h1
 rcases h5 with h5 | ⟨_,h6,_⟩
 ·simp only[List.length_take,List.length_drop] at kN;omega
 ·cases h6;rfl
theorem I8 {rows : List U} {r ver n : Nat} {α : Type} {f : α → List AV} {d : α} {l0 : List α} (he : aT rows r = some ⟨ver, .row 1 f d l0⟩) (hn : n = l0.length) {ls : List (List UInt8)} (hl : ls.length = n)
    (gM:∀(i:Nat)(x:α)(l:List UInt8),l0[i]? =some x→ls[i]? =some l→∃a,f x=[a]∧As rows a (.bs 0 l)):As rows (.own r ver 1 0 n) (.sl 0 1 (fun l=>[.bs 0 l]) [] ls):=fun E E0 w v hr hz h=>by
 rw[bS] at he
 simp only[ah] at h⊢
 obtain⟨a,c,rfl,h2,h3,h4,h5⟩:=h.2 (hr.ver r _ he).symm
 refine⟨a,n,c,rfl,hl.symm,h2,h3,h4,fun i x hx=> ?_⟩
 have hi:=(List.getElem?_eq_some_iff.1 hx).1
 obtain⟨bo,rfl,_⟩:=h5.resolve_left (by omega)
 have cn:bH E r ⟨ver,.row 1 f d l0⟩:=⟨rfl,bo⟩
 obtain⟨cur,T,lo,bG,g1,g2,g3,g4⟩:=(hr.bM r _ he cn).aO rfl
 have eL:i<l0.length:=by omega
 obtain⟨cs,k1,k2,k3⟩:=g4 i (f l0[i]) (by simp only[Bd.at];rw[List.getElem?_eq_getElem eL];rfl)
 obtain⟨a',ha,has⟩:=gM i _ x (List.getElem?_eq_getElem eL) hx
 rw[ha] at k2
 simp only[aw] at k2
 obtain⟨u,vs,rfl,k4,rfl⟩:=k2
 refine⟨_,_,[u],rfl,(hz 0 _).2 ⟨rfl,hr.lt he cn⟩,rfl,?_,fun j v hv=> ?_⟩
 ·simp only[aw]
  exact⟨u,[],rfl,has E E0 w u hr hz k4,rfl⟩
 ·cases j with
  | zero=>
   simp at hv;subst hv
   have:=k3 0 u rfl
   rw[Nat.zero_mul,Nat.zero_add,Nat.add_zero]
   simp only[Bd.sz,Nat.add_zero] at this
   rw[cell_of_row w _ _ cur T (lo,bG) g1]
   exact this
  | succ j=>simp at hv
end
end Go.Proofs.YtpbpiehcchannaaGreatDoor

/-! The model's own function that makes bytes. Conditions: its premises. -/
namespace Go.Proofs.YtpbpiehcchannaaGreatDoor
set_option linter.unusedVariables false
set_option linter.unusedSimpArgs false
open Go.RowKit
theorem yC:∀(n t:Nat)(acc:Array Value),∃l:List UInt8,l.length=n∧Extern.BytealgMakeNoZero.digits n t acc=acc++(de l).toArray
 | 0,_,acc=>⟨[],rfl,by simp[Extern.BytealgMakeNoZero.digits,de]⟩
 | n+1,t,acc=>by
  rw[Extern.BytealgMakeNoZero.digits]
  obtain⟨l,h1,h2⟩:=yC n (t/256) (acc.push (.int .u8 (Int.ofNat (t%256))))
  refine⟨UInt8.ofNat (t%256)::l,by simp[h1],?_⟩
  rw[h2]
  have:(.int .u8 (Int.ofNat (t%256)):Value)=bv (UInt8.ofNat (t%256)):=by
   unfold bv
   congr 1
   have h3:t%256<256:=Nat.mod_lt _ (by decide)
   simp
  rw[this]
  apply Array.ext'
  simp[de]
section
variable {P:Program}
theorem Out.I9{E E':Env}{w w':World}{H:List U}{us:List (Nat×U)}(O:Out E E' w.drew.drew w' H us):Out E E' w w' H us:=
 ⟨⟨O.ext.ver,O.ext.di,O.ext.abs,O.ext.aD,O.ext.cell,O.ext.grow,O.ext.pl⟩,O.hr,O.os,O.tape,O.output,O.size,O.aD,O.grow,O.block,O.rows⟩
theorem Ja(n t:Nat):(Extern.BytealgMakeNoZero.digits n t #[]).size=n:=by
 obtain⟨l,h1,h2⟩:=yC n t #[]
 rw[h2]
 simp[de,h1]
theorem Jb (w : World) (ps : Array TypeId) (t e : TypeId) (ht : P.underlying t = some (.slice e)) (n : Nat) (hn : n ≤ 140737488355328) :
    ∃l:List UInt8,(Extern.BytealgMakeNoZero.makeNoZero ps #[t] #[.int .i64 n]).run P w= .ok (.slice (some ⟨w.heap.size,0,none⟩) n l.length) (w.drew.drew.alloc (.cells (de l).toArray e))∧n≤l.length∧l.length≤maxLen:=by
 have h0:∃b:Nat,(Extern.BytealgMakeNoZero.makeNoZero ps #[t] #[.int .i64 n]).run P w= .ok (.slice (some ⟨w.heap.size,0,none⟩) n (Extern.BytealgMakeNoZero.digits (grownCap w n 0 e) b #[]).size) (w.drew.drew.alloc (.cells (Extern.BytealgMakeNoZero.digits (grownCap w n 0 e) b #[]) e)):=by
  obtain⟨q,hq⟩:∃q:Question,q.forced=false∧Extern.BytealgMakeNoZero.makeNoZero ps #[t] #[.int .i64 n]=(underlying t >>= fun u=>match u with
      | .slice el=>(do
       if(n:Int)<0||(n:Int)>2^48 then runtimePanic (.error "makeslice: len out of range")
       let c←choose (.appendCap (n:Int).toNat 0 el)
       askRoom c
       let b←choose q
       let a←newRow el (Extern.BytealgMakeNoZero.digits c b #[])
       pure (.slice (some a) (n:Int).toNat c))
      | _=>stuck "bytealg.MakeNoZero: slice type expected"):=⟨_,rfl,rfl⟩
  have h3:¬(n:Int)<0:=by omega
  have h4:¬(281474976710656:Int)< (n:Int):=by omega
  rw[hq.2]
  have oW:=hq.1
  have h5:(Question.appendCap n 0 e).forced=false:=rfl
  simp[run_underlying ht,h3,h4,h5,oW,newRow,grownCap,Ja]
  exact⟨_,rfl⟩
 obtain⟨b,h0⟩:=h0
 obtain⟨l,h1,h2⟩:=yC (grownCap w n 0 e) b #[]
 rw[Array.empty_append] at h2
 rw[h2] at h0
 have hs:(de l).toArray.size=l.length:=by simp[de]
 rw[hs] at h0
 exact⟨l,h0,by rw[h1];simpa using grownCap_ge w n 0 e,by rw[h1];exact grownCap_le_maxLen w n 0 e (by unfold maxLen;omega)⟩
theorem CW {f : FuncId} {fn : Func} {ps : Array TypeId} {t e : TypeId} (hf : P.funcs[f]? = some fn) (Jc : (fn.name == "runtime.NumGoroutine") = false) (hb : fn.body.isNone = true) (df : Extern.findNext fn = none) (he : Extern.find fn = some (Extern.BytealgMakeNoZero.makeNoZero ps #[t]))
    (ht:P.underlying t=some (.slice e)) (n:Nat) (hn:n≤140737488355328) {args caps:List AV} (cr:args++caps=[.val (.int .i64 n)]) (r:Nat) {hg:Nat→Option U} {en:U} (hr:hg r=some en) {K:AV→List (Nat×U)→Prop}
    (hK:∀l:List UInt8,l.length=n→K (.own r (en.ver+1) 1 0 n) [(r,⟨en.ver+1,.bytes l⟩)]):eV P (.clo f caps) args hg K:=by
 refine x5 (post:=fun x us=>∃l:List UInt8,l.length=n∧x= .own r (en.ver+1) 1 0 n∧us=[(r,⟨en.ver+1,.bytes l⟩)]) ?_ (fun v us⟨l,h1,h2,h3⟩=>by subst h2;subst h3;exact hK l h1)
 rw[cr]
 intro E H w cargs hR hh CX
 simp only[aw,ah] at CX
 obtain⟨v,vs,rfl,rfl,rfl⟩:=CX
 obtain⟨l,h1,h2,h3⟩:=Jb (P:=P) w ps t e ht n hn
 have O:=(Out.new (T:=e) (cs:=de l) (bd':= .bytes (l.take n)) hR.drew.drew (hh r en hr) (by simp[Bd.count,Bd.sz];omega) (fun i ys hy=>by
  simp only[Bd.at,Option.map_eq_some_iff,List.getElem?_take] at hy
  obtain⟨b,hb,rfl⟩:=hy
  split at hb
  ·refine⟨[bv b],rfl,by simp only[aw,ah];exact⟨_,_,rfl,rfl,rfl⟩,fun j u hu=> ?_⟩
   cases j with
   | zero=>simp at hu;subst hu;simp[Bd.sz,de,hb]
   | succ j=>simp at hu
  ·cases hb)).I9
 refine .inr ⟨_,_,by rw[run_callFunc_extern hf Jc hb df he,h1];rfl,.own r (en.ver+1) 1 0 n,_,_,⟨l.take n,by simp;omega,rfl,rfl⟩,?_,O⟩
 rw[ah,Env.jE,Env.ke]
 refine⟨Nat.le_refl _,fun _=>⟨_,l.length,rfl,h2,h3,(fun h=>by cases h),.inr ⟨Env.np _ _ _ _,rfl,_,_,_,heap_alloc_new _ _,by simp⟩⟩⟩
end
end Go.Proofs.YtpbpiehcchannaaGreatDoor

/-! A function that is known for rows and plain values may be asked with slices of further rows of the caller's. Conditions: none. -/
namespace Go.Proofs.YtpbpiehcchannaaGreatDoor
set_option linter.unusedVariables false
set_option linter.unusedSimpArgs false
open Go.RowKit
def fU(n m:Nat):Ren:=⟨fun r=>if r<n then r else r+m,fun _=>0⟩
def kX(n m:Nat)(e:U):U:=⟨e.ver,bL (fU n m) e.bd⟩
def lS(n m:Nat):List U→List U
 | []=>[]
 | e::es=>kX n m e::lS n m es
def yD(n m:Nat):List (Nat×U)→List (Nat×U)
 | []=>[]
 | (q,e)::ms=>(q+m,kX n m e)::yD n m ms
def uW:List U→Prop
 | []=>True
 | e::es=>kU (U.bd e)∧uW es
theorem yE:∀{l:List U},uW l→∀(r:Nat)(e:U),l[r]? =some e→kU e.bd
 | x::l,h,0,e,he=>by simp at he;subst he;exact h.1
 | x::l,h,r+1,e,he=>yE (l:=l) h.2 r e (by simpa using he)
theorem CY(n m:Nat):∀(l:List U)(r:Nat),(lS n m l)[r]? =(l[r]?).map (kX n m)
 | [],r=>by simp[lS]
 | x::l,0=>by simp[lS]
 | x::l,r+1=>by simpa [lS] using CY n m l r
theorem CZ(n m:Nat):∀(l:List U),(lS n m l).length=l.length
 | []=>rfl
 | x::l=>by simp[lS,CZ n m l]
def ef(n:Nat):List (Nat×U)→Prop
 | []=>True
 | (q,_)::ms=>n≤q∧ef n ms
theorem C2{n:Nat}:∀{ms:List (Nat×U)},ef n ms→∀q,q∈bT ms→n≤q
 | (q',e')::ms,h,q,hq=>by
  simp only[bT,List.mem_cons] at hq
  rcases hq with rfl | hq
  ·exact h.1
  ·exact C2 h.2 q hq
def kY(n m:Nat)(ids:List Nat)(q:Nat)(e:U):U:=if q<n∨q∈ids then kX n m e else⟨e.ver,.dead⟩
structure uX(D:Nat→Prop)(E Ec:Env):Prop where
 ver:∀r,D r→Ec.ver r=E.ver r
 di:∀r,D r→Ec.ρ r=E.ρ r
 abs:∀r,D r→(Ec.abs r↔E.abs r)
 pl:∀r,D r→Ec.pl r=E.pl r
mutual
theorem yF{D:Nat→Prop}{E Ec:Env}{w:World}(C:uX D E Ec):∀(x:AV)(v:Value),mJ x→cL D x→ah E w x v→ah Ec w x v
 | .any,v,_,_,h=>by simp only[ah]
 | .val u,v,_,_,h=>by simp only[ah] at h⊢;exact h
 | .agg l,v,hz,ho,h=>by
  simp only[ah] at h⊢
  obtain⟨cs,rfl,h⟩:=h
  exact⟨cs,rfl,sN C l cs hz ho h⟩
 | .al l,v,hz,ho,h=>by
  simp only[ah] at h⊢
  obtain⟨cs,rfl,h⟩:=h
  exact⟨cs,rfl,sN C l cs hz ho h⟩
 | .bs z l,v,hz,_,_=>hz.elim
 | .sl z sz f d l,v,hz,_,_=>hz.elim
 | .own r ver sz off n,v,hz,ho,h=>by
  simp only[ah,C.ver r ho,C.di r ho,C.abs r ho] at h⊢
  exact h
 | .ref r ver sz i j,v,hz,ho,h=>by
  simp only[ah,C.ver r ho,C.di r ho] at h⊢
  exact h
 | .cp z cells j,v,hz,_,_=>hz.elim
 | .clo f caps,v,hz,ho,h=>by
  simp only[ah] at h⊢
  obtain⟨cs,rfl,h⟩:=h
  exact⟨cs,rfl,sN C caps cs hz ho h⟩
 | .fI r ver,v,hz,ho,h=>by
  simp only[ah,C.ver r ho,C.di r ho] at h⊢
  exact h
 | .pl r ver i off n,v,hz,ho,h=>by
  simp only[ah,C.ver r ho,C.pl r ho] at h⊢
  exact h
 | .gU r ver i k,v,hz,ho,h=>by
  simp only[ah,C.ver r ho,C.pl r ho] at h⊢
  exact h
 | .gd φ x,v,hz,ho,h=>by
  simp only[ah] at h⊢
  exact⟨fun p=>yF C x v hz ho (h.1 p),h.2⟩
theorem sN{D:Nat→Prop}{E Ec:Env}{w:World}(C:uX D E Ec):∀(xs:List AV)(vs:List Value),lP xs→cT D xs→aw E w xs vs→aw Ec w xs vs
 | [],vs,_,_,h=>by simp only[aw] at h⊢;exact h
 | x::xs,vs,hz,ho,h=>by
  simp only[aw] at h⊢
  obtain⟨v,cQ,rfl,h1,h2⟩:=h
  exact⟨v,cQ,rfl,yF C x v hz.1 ho.1 h1,sN C xs cQ hz.2 ho.2 h2⟩
end
theorem fx.Jd{D:Nat→Prop}{E Ec:Env}{w:World}(C:uX D E Ec){b:Nat}{bd:Bd}(hz:kU bd)(ho:c8 D bd)(h:fx E w b bd):fx Ec w b bd:=
 ⟨fun hl=>by
  obtain⟨cur,T,lo,hi,h1,h2,h3,h4⟩:=h.aO hl
  exact⟨cur,T,lo,hi,h1,h2,h3,fun i ys hy=>by
   obtain⟨cs,h5,h6,h7⟩:=h4 i ys hy
   exact⟨cs,h5,sN C _ _ (CT hz hy) (xZ ho hy) h6,h7⟩⟩,fun i tR st e=>by subst e;exact hz.elim⟩
section
variable {P:Program}
def uY(H0 R:List U)(args cO:List AV):Prop:=∀(E E0:Env)(w:World)(vs:List Value),HR E w (H0++R)→
 (∀z b,E0.aD z b↔z=0∧b<w.heap.size∧∀(r:Nat)(e:U),H0[r]? =some e→¬aE E r e b)→
 (∀r,r<H0.length→E0.ρ r=E.ρ r∧E0.ver r=E.ver r∧(E0.abs r↔E.abs r)∧E0.pl r=E.pl r)→aw E w args vs→aw E0 w cO vs
theorem oX {f : FuncId} {cO : List AV} {H0 : List U} {X : AV} {rows : List U} {mk : List (Nat × U)} (S : Spec P f cO H0 (ak X rows mk)) (hX : mJ X) (hH : uW H0) (C3 : dr (fun _ e => c8 (· < H0.length) e.bd) H0 0) (uZ : uW rows) (cY : rows.length = H0.length) (lQ : sJ mk) (iP : ef H0.length mk) {args : List AV} {R : List U}
    (cr:uY H0 R args cO):
    Spec P f args (H0++R) (ak (bx (fU H0.length R.length) X) (lS H0.length R.length rows++R) (yD H0.length R.length mk)):=by
 intro w E cargs hr sm
 obtain⟨n,hn⟩:∃n,n=H0.length:=⟨_,rfl⟩
 obtain⟨m,hm⟩:∃m,m=R.length:=⟨_,rfl⟩
 rw[←hn] at iP cY C3
 have C4:(H0++R).length=n+m:=by rw[List.length_append];omega
 have ew:∀(r:Nat)(e:U),H0[r]? =some e→(H0++R)[r]? =some e∧r<n:=fun r e h=>by
  have:=(List.getElem?_eq_some_iff.1 h).1
  exact⟨by rw[List.getElem?_append_left this];exact h,by omega⟩
 have fV:∀(q:Nat)(e:U),R[q]? =some e→(H0++R)[q+n]? =some e∧q<m:=fun q e h=>by
  have:=(List.getElem?_eq_some_iff.1 h).1
  exact⟨by rw[List.getElem?_append_right (by omega),show q+n - H0.length=q by omega];exact h,by omega⟩
 have kA:=hr.top
 rw[C4] at kA
 obtain⟨E0,gv⟩:∃E0:Env,E0={ρ:=fun r=>if r<n then E.ρ r else E.ρ (r+m),ver:=fun r=>if r<n then E.ver r else 0,aD:=fun z b=>z=0∧b<w.heap.size∧∀(r:Nat)(e:U),H0[r]? =some e→¬aE E r e b,abs:=fun r=>if r<n then E.abs r else False,pl:=fun r=>if r<n then E.pl r else E.pl (r+m)}:=⟨_,rfl⟩
 have iQ:∀z b,E0.aD z b↔z=0∧b<w.heap.size∧∀(r:Nat)(e:U),H0[r]? =some e→¬aE E r e b:=by subst gv;exact fun _ _=>Iff.rfl
 have ie:∀r,r<n→E0.ρ r=E.ρ r∧E0.ver r=E.ver r∧(E0.abs r↔E.abs r):=by intro r h;subst gv;simp[h]
 have eL:∀r,¬r<n→E0.ρ r=E.ρ (r+m)∧E0.ver r=0∧¬E0.abs r:=by intro r h;subst gv;simp[h]
 have sO:∀r,r<n→E0.pl r=E.pl r:=by intro r h;subst gv;simp[h]
 have Je:∀r,¬r<n→E0.pl r=E.pl (r+m):=by intro r h;subst gv;simp[h]
 have C5:∀(r:Nat)(e:U),r<n→(bH E0 r e↔bH E r e):=fun r e h=>by unfold bH;rw[(ie r h).2.2]
 have sP:∀(r:Nat)(e:U)(b:Nat),r<n→(aE E0 r e b↔aE E r e b):=fun r e b h=>by unfold aE;rw[C5 r e h,(ie r h).1,sO r h]
 have S0:uX (· <n) E E0:=⟨fun r h=>(ie r h).2.1,fun r h=>(ie r h).1,fun r h=>(ie r h).2.2,fun r h=>sO r h⟩
 have sq:HR E0 w H0:=by
  refine⟨fun r e h=> ?_,fun r e h hl=> ?_,fun r e h ha=> ?_,fun r r' e e' b h h' hl bu=> ?_,fun z b h=>((iQ z b).1 h).2.1,fun r e b h hl z hz=> ?_,fun r h=> ?_,fun g cs hg=>⟨(iQ 0 g).2 ⟨rfl,hr.cJ 0 g (hr.gl g cs hg).1,fun r e h hl=>hr.dj r e g (ew r e h).1 hl 0 (hr.gl g cs hg).1⟩,(hr.gl g cs hg).2⟩,fun r v ls h=> ?_⟩
  ·rw[(ie r (ew r e h).2).2.1];exact hr.ver r e (ew r e h).1
  ·have h2:=(ew r e h).2
   rw[(ie r h2).1]
   have h3:=qB C3 h
   exact(hr.bM r e (ew r e h).1 ((C5 r e h2).1 hl)).Jd S0 (yE hH r e h) h3
  ·exact hr.abs r e (ew r e h).1 ((ie r (ew r e h).2).2.2.1 ha)
  ·have h2:=(ew r e h).2;have jG:=(ew r' e' h').2
   exact hr.inj r r' e e' b (ew r e h).1 (ew r' e' h').1 ((sP r e b h2).1 hl) ((sP r' e' b jG).1 bu)
  ·have h2:=(ew r e h).2
   exact((iQ z _).1 hz).2.2 r e h ((sP r e b h2).1 hl)
  ·have:=eL r (by omega);exact⟨this.2.1,this.2.2⟩
  ·rw[sO r (ew r _ h).2];exact hr.aB r v ls (ew r _ h).1
 refine Calls.mono (S w E0 cargs sq (cr E E0 w cargs hr iQ (fun r h=>⟨(ie r (by omega)).1,(ie r (by omega)).2.1,(ie r (by omega)).2.2,sO r (by omega)⟩) sm)) fun e w'⟨v,x,H1,E1,he,lJ,hv,cG,X1,mA,uC,nH,c9⟩=> ?_
 obtain⟨tl,kW,mr,iZ⟩:=lJ
 have eI:∀k,k<w.heap.size→(∀(r:Nat)(e:U),H0[r]? =some e→¬aE E r e k)→w'.heap[k]? =w.heap[k]?:=fun k hk h=>X1.cell 0 k ((iQ 0 k).2 ⟨rfl,hk,h⟩)
 have ui:=c9.size
 have dY:∀(r:Nat)(e:U)(b:Nat),H1[r]? =some e→aE E1 r e b→w.heap.size≤b∨(∃(r0:Nat)(e0:U),r0<n∧H0[r0]? =some e0∧aE E r0 e0 b):=by
  intro r e b h1 h2
  rcases nH r e b h1 h2 with h | ⟨r0,e0,h,h3⟩
  ·exact .inl h
  ·have h5:=(ew r0 e0 h).2
   exact .inr ⟨r0,e0,h5,h,(sP r0 e0 b h5).1 h3⟩
 obtain⟨E',aR⟩:∃E':Env,E'={ρ:=fun k=>if k<n then E1.ρ k else if k<n+m then E.ρ k else E1.ρ (k - m),ver:=fun k=>if k<n then E1.ver k else if k<n+m then E.ver k else E1.ver (k - m),aD:=E.aD,abs:=fun k=>if k<n then E1.abs k else if k<n+m then E.abs k else E1.abs (k - m),pl:=fun k=>if k<n then E1.pl k else if k<n+m then E.pl k else E1.pl (k - m)}:=⟨_,rfl⟩
 have lo:∀k,k<n→E'.ρ k=E1.ρ k∧E'.ver k=E1.ver k∧(E'.abs k↔E1.abs k):=by intro k hk;subst aR;simp[hk]
 have mi:∀k,k<m→E'.ρ (k+n)=E.ρ (k+n)∧E'.ver (k+n)=E.ver (k+n)∧(E'.abs (k+n)↔E.abs (k+n)):=by
  intro k hk;subst aR
  have h1:¬k+n<n:=by omega
  have h2:k+n<n+m:=by omega
  simp[h1,h2]
 have hi:∀k,¬k<n→E'.ρ (k+m)=E1.ρ k∧E'.ver (k+m)=E1.ver k∧(E'.abs (k+m)↔E1.abs k):=by
  intro k hk;subst aR
  have h1:¬k+m<n:=by omega
  have h2:¬k+m<n+m:=by omega
  simp[h1,h2]
 have oT:∀k,k<n→E'.pl k=E1.pl k:=by intro k hk;subst aR;simp[hk]
 have yG:∀k,k<m→E'.pl (k+n)=E.pl (k+n):=by
  intro k hk;subst aR
  have h1:¬k+n<n:=by omega
  have h2:k+n<n+m:=by omega
  simp[h1,h2]
 have oU:∀k,¬k<n→E'.pl (k+m)=E1.pl k:=by
  intro k hk;subst aR
  have h1:¬k+m<n:=by omega
  have h2:¬k+m<n+m:=by omega
  simp[h1,h2]
 have three:∀k,k<n∨(∃q,q<m∧k=q+n)∨(∃q,¬q<n∧k=q+m):=by
  intro k
  by_cases h1:k<n
  ·exact .inl h1
  ·by_cases h2:k<n+m
   ·exact .inr (.inl ⟨k - n,by omega,by omega⟩)
   ·exact .inr (.inr ⟨k - m,by omega,by omega⟩)
 have ez:∀z b,E'.aD z b↔E.aD z b:=by intro z b;subst aR;exact Iff.rfl
 have C:oR (fU n m) E1 E':=by
  refine⟨fun r=> ?_,fun r=> ?_,fun r=> ?_,fun r=> ?_⟩<;>by_cases h:r<n
  ·simp only[fU,if_pos h,Nat.add_zero];exact(lo r h).2.1
  ·simp only[fU,if_neg h,Nat.add_zero];exact(hi r h).2.1
  ·simp only[fU,if_pos h];exact(lo r h).1
  ·simp only[fU,if_neg h];exact(hi r h).1
  ·simp only[fU,if_pos h];exact(lo r h).2.2
  ·simp only[fU,if_neg h];exact(hi r h).2.2
  ·simp only[fU,if_pos h];exact oT r h
  ·simp only[fU,if_neg h];exact oU r h
 have C6:∀(q:Nat)(e:U)(b:Nat),R[q]? =some e→aE E (q+n) e b→w'.heap[b]? =w.heap[b]?:=by
  intro q e b h hl
  refine eI _ (hr.blt (fV q e h).1 hl) fun r e' h' bu=> ?_
  have:=hr.inj r (q+n) e' e b (ew r e' h').1 (fV q e h).1 bu hl
  have:=(ew r e' h').2;omega
 have X:Ext E E' w w':=by
  refine⟨fun k=> ?_,fun k hk=> ?_,fun k hk=> ?_,fun z b h=>(ez z b).2 h,fun z b h=>eI b (hr.cJ z b h) (fun r e h1 h2=>hr.dj r e b (ew r e h1).1 h2 z h),fun k cur T fz h=>c9.grow _ cur T fz h,fun k hk i b hb=> ?_⟩
  ·rcases three k with h | ⟨q,h,rfl⟩ | ⟨q,h,rfl⟩
   ·rw[(lo k h).2.1,←(ie k h).2.1];exact X1.ver k
   ·rw[(mi q h).2.1];exact Nat.le_refl _
   ·rw[(kA (q+m) (by omega)).1];exact Nat.zero_le _
  ·rcases three k with h | ⟨q,h,rfl⟩ | ⟨q,h,rfl⟩
   ·rw[(lo k h).2.1,←(ie k h).2.1] at hk
    rw[(lo k h).1,X1.di k hk,(ie k h).1]
   ·exact(mi q h).1
   ·rw[(hi q h).2.1,(kA (q+m) (by omega)).1] at hk
    rw[(hi q h).1,X1.di q (by rw[hk,(eL q h).2.1]),(eL q h).1]
  ·rcases three k with h | ⟨q,h,rfl⟩ | ⟨q,h,rfl⟩
   ·rw[(lo k h).2.1,←(ie k h).2.1] at hk
    rw[(lo k h).2.2,X1.abs k hk,(ie k h).2.2]
   ·exact(mi q h).2.2
   ·rw[(hi q h).2.1,(kA (q+m) (by omega)).1] at hk
    rw[(hi q h).2.2,X1.abs q (by rw[hk,(eL q h).2.1])]
    exact⟨fun a=>((eL q h).2.2 a).elim,fun a=>((kA (q+m) (by omega)).2 a).elim⟩
  ·rcases three k with h | ⟨q,h,rfl⟩ | ⟨q,h,rfl⟩
   ·rw[(lo k h).2.1,←(ie k h).2.1] at hk
    rw[oT k h]
    exact X1.pl k hk i b (by rw[sO k h];exact hb)
   ·rw[yG q h];exact hb
   ·rw[(hi q h).2.1,(kA (q+m) (by omega)).1] at hk
    rw[oU q h]
    exact X1.pl q (by rw[hk,(eL q h).2.1]) i b (by rw[Je q h];exact hb)
 have P1:n≤H1.length:=by omega
 obtain⟨H',eS⟩:∃H':List U,H'=lS n m rows++R++(tl.mapIdx fun q e=>kY n m (bT mk) (q+n) e):=⟨_,rfl⟩
 have qF:(lS n m rows).length=n:=by rw[CZ];exact cY
 have Jf:∀r,r<n→H1[r]? =rows[r]?:=fun r h=>by rw[mr,List.getElem?_append_left (by omega)]
 have C7:∀q,¬q<n→H1[q]? =tl[q - n]?:=fun q h=>by rw[mr,List.getElem?_append_right (by omega),cY]
 have get:∀(k:Nat)(e:U),H'[k]? =some e→(k<n∧∃e1,H1[k]? =some e1∧rows[k]? =some e1∧e=kX n m e1)∨(∃q,k=q+n∧R[q]? =some e)∨(∃q e1,¬q<n∧k=q+m∧H1[q]? =some e1∧e=kY n m (bT mk) q e1):=by
  intro k e h
  rw[eS,List.append_assoc,List.getElem?_append] at h
  split at h
  ·rename_i q
   rw[CY,Option.map_eq_some_iff] at h
   obtain⟨e1,h1,h2⟩:=h
   exact .inl ⟨by omega,e1,by rw[Jf k (by omega)];exact h1,h1,h2.symm⟩
  ·rename_i q
   rw[List.getElem?_append] at h
   split at h
   ·exact .inr (.inl ⟨k - n,by omega,by rw[qF] at h;exact h⟩)
   ·rename_i q2
    rw[List.getElem?_mapIdx,Option.map_eq_some_iff] at h
    obtain⟨e1,h1,h2⟩:=h
    rw[qF] at h1 h2 q2
    refine .inr (.inr ⟨k - m,e1,by omega,by omega,?_,?_⟩)
    ·rw[C7 _ (by omega),←h1];congr 1;omega
    ·rw[←h2];congr 1;omega
 have told:∀{q:Nat}{e1:U},H1[q]? =some e1→(kY n m (bT mk) q e1).bd.live=true→¬q<n→kY n m (bT mk) q e1=kX n m e1∧kU e1.bd∧e1.bd.live=true:=by
  intro q e1 h1 hl ig
  unfold kY at hl⊢
  split at hl
  ·rename_i hq
   rw[if_pos hq]
   refine⟨rfl,?_,by unfold kX at hl;rw[(iU (R:=fU n m) (b:=e1.bd)).2.2] at hl;exact hl⟩
   obtain⟨e2,h2,h3⟩:=uU iZ q (hq.resolve_left ig)
   rw[bS,h1] at h3
   cases h3
   exact yA lQ q _ h2
  ·cases hl
 have yB:∀(q:Nat)(e1:U),(kY n m (bT mk) q e1).ver=e1.ver:=by intro q e1;unfold kY;split<;>rfl
 have sH:∀(k:Nat)(e:U),H'[k]? =some e→bH E' k e→(∃q e1,(q<n∧k=q∨¬q<n∧k=q+m)∧H1[q]? =some e1∧bH E1 q e1∧e=kX n m e1∧kU e1.bd∧E'.ρ k=E1.ρ q)∨(∃q,k=q+n∧R[q]? =some e∧bH E (q+n) e∧E'.ρ k=E.ρ (q+n)):=by
  intro k e h hl
  rcases get k e h with⟨h1,e1,h2,h3,rfl⟩ | ⟨q,rfl,h2⟩ | ⟨q,e1,h1,rfl,h2,rfl⟩
  ·refine .inl ⟨k,e1,.inl ⟨h1,rfl⟩,h2,⟨?_,fun a=>hl.2 ((lo k h1).2.2.2 a)⟩,rfl,yE uZ k e1 h3,(lo k h1).1⟩
   have:=hl.1;unfold kX at this;rw[(iU (R:=fU n m) (b:=e1.bd)).2.2] at this;exact this
  ·have hq:=(fV q e h2).2
   exact .inr ⟨q,rfl,h2,⟨hl.1,fun a=>hl.2 ((mi q hq).2.2.2 a)⟩,(mi q hq).1⟩
  ·obtain⟨t1,t2,t3⟩:=told h2 hl.1 h1
   exact .inl ⟨q,e1,.inr ⟨h1,rfl⟩,h2,⟨t3,fun a=>hl.2 ((hi q h1).2.2.2 a)⟩,t1,t2,(hi q h1).1⟩
 have aO:∀(k:Nat)(e:U)(b:Nat),H'[k]? =some e→aE E' k e b→(∃q e1,(q<n∧k=q∨¬q<n∧k=q+m)∧H1[q]? =some e1∧aE E1 q e1 b)∨(∃q,k=q+n∧R[q]? =some e∧aE E (q+n) e b):=by
  intro k e b h hb
  have s1:∀q,q<n→(fU n m).σ q=q:=fun q hq=>by simp[fU,hq]
  have s2:∀q,¬q<n→(fU n m).σ q=q+m:=fun q hq=>by simp[fU,hq]
  rcases get k e h with⟨h1,e1,h2,h3,rfl⟩ | ⟨q,rfl,h2⟩ | ⟨q,e1,h1,rfl,h2,rfl⟩
  ·exact .inl ⟨k,e1,.inl ⟨h1,rfl⟩,h2,(C.aO k e1 e1.ver b).2 (by rw[s1 k h1];exact hb)⟩
  ·have hq:=(fV q e h2).2
   refine .inr ⟨q,rfl,h2,?_⟩
   unfold aE bH at hb⊢
   rwa [(mi q hq).1,(mi q hq).2.2,yG q hq] at hb
  ·unfold kY at hb
   split at hb
   ·exact .inl ⟨q,e1,.inr ⟨h1,rfl⟩,h2,(C.aO q e1 e1.ver b).2 (by rw[s2 q h1];exact hb)⟩
   ·exact absurd hb aE.dead
 have sr:HR E' w' H':=by
  refine⟨?_,?_,?_,?_,?_,?_,?_,hr.gl.ext X,?_⟩
  ·intro k e h
   rcases get k e h with⟨h1,e1,h2,h3,rfl⟩ | ⟨q,rfl,h2⟩ | ⟨q,e1,h1,rfl,h2,rfl⟩
   ·rw[(lo k h1).2.1];exact cG.ver k e1 h2
   ·rw[(mi q (fV q e h2).2).2.1];exact hr.ver _ e (fV q e h2).1
   ·rw[(hi q h1).2.1,yB];exact cG.ver q e1 h2
  ·intro k e h hl
   rcases sH k e h hl with⟨q,e1,h1,h2,h3,rfl,h4,h5⟩ | ⟨q,rfl,h2,h3,h5⟩
   ·rw[h5]
    exact(cG.bM q e1 h2 h3).CU C h4
   ·rw[h5]
    exact(hr.bM _ e (fV q e h2).1 h3).ext X (C6 q e _ h2 (aE.of h3))
  ·intro k e h ha
   rcases get k e h with⟨h1,e1,h2,h3,rfl⟩ | ⟨q,rfl,h2⟩ | ⟨q,e1,h1,rfl,h2,rfl⟩
   ·have:=cG.abs k e1 h2 ((lo k h1).2.2.1 ha)
    unfold kX;rw[(iU (R:=fU n m) (b:=e1.bd)).2.1];exact this
   ·exact hr.abs _ e (fV q e h2).1 ((mi q (fV q e h2).2).2.2.1 ha)
   ·have:=cG.abs q e1 h2 ((hi q h1).2.2.1 ha)
    unfold kY;split
    ·unfold kX;rw[(iU (R:=fU n m) (b:=e1.bd)).2.1];exact this
    ·rfl
  ·intro k k' e e' b h h' hl bu
   rcases aO k e b h hl with⟨q,e1,h1,h2,h3⟩ | ⟨q,rfl,h2,h3⟩<;>rcases aO k' e' b h' bu with⟨q',oV,g1,g2,g3⟩ | ⟨q',rfl,g2,g3⟩
   ·have:=cG.inj q q' e1 oV b h2 g2 h3 g3
    omega
   ·have k1:=hr.blt (fV q' e' g2).1 g3
    rcases dY q e1 b h2 h3 with h | ⟨r0,e0,k2,k3,k4⟩
    ·omega
    ·have:=hr.inj r0 (q'+n) e0 e' b (ew r0 e0 k3).1 (fV q' e' g2).1 k4 g3
     omega
   ·have k1:=hr.blt (fV q e h2).1 h3
    rcases dY q' oV b g2 g3 with h | ⟨r0,e0,k2,k3,k4⟩
    ·omega
    ·have:=hr.inj (q+n) r0 e e0 b (fV q e h2).1 (ew r0 e0 k3).1 h3 k4
     omega
   ·exact hr.inj _ _ e e' b (fV q e h2).1 (fV q' e' g2).1 h3 g3
  ·exact fun z b h=>Nat.lt_of_lt_of_le (hr.cJ z b ((ez z b).1 h)) ui
  ·intro k e b h hl z hz
   have nN:=(ez z _).1 hz
   rcases aO k e b h hl with⟨q,e1,h1,h2,h3⟩ | ⟨q,rfl,h2,h3⟩
   ·rcases dY q e1 b h2 h3 with h | ⟨r0,e0,k2,k3,k4⟩
    ·have:=hr.cJ z _ nN;omega
    ·exact hr.dj r0 e0 b (ew r0 e0 k3).1 k4 z nN
   ·exact hr.dj _ e b (fV q e h2).1 h3 z nN
  ·intro k hk
   have fD:H1.length=n+tl.length:=by rw[mr,List.length_append,cY]
   rw[eS,List.length_append,List.length_append,qF,List.length_mapIdx] at hk
   have:=cG.top (k - m) (by omega)
   have h2:=hi (k - m) (by omega)
   rw[show k - m+m=k by omega] at h2
   rw[h2.2.1]
   exact⟨this.1,fun a=>this.2 (h2.2.2.1 a)⟩
  ·intro k v ls h
   rcases get k _ h with⟨h1,e1,h2,h3,h4⟩ | ⟨q,rfl,h2⟩ | ⟨q,e1,h1,rfl,h2,h4⟩
   ·rw[oT k h1]
    exact cG.aB k e1.ver ls (by rw[h2,←uB (U.mk.inj h4).2.symm])
   ·rw[yG q (fV q _ h2).2]
    exact(hr.aB _ v ls (fV q _ h2).1).lx fun i b hb=>C6 q _ b h2 (.inr ⟨rfl,i,hb⟩)
   ·unfold kY at h4
    split at h4
    ·rw[oU q h1]
     exact cG.aB q e1.ver ls (by rw[h2,←uB (U.mk.inj h4).2.symm])
    ·cases h4
 refine⟨v,bx (fU n m) x,H',E',he,⟨_,by rw[kW,hn,hm],by rw[eS,hn,hm],?_⟩,?_,sr,X,fun z b h=> .inl ((ez z b).1 h),by rw[eS,C4,List.length_append,List.length_append,qF];omega,?_,⟨c9.os,c9.tape,c9.output,c9.size,fun k hk jD=> ?_,c9.grow,?_⟩⟩
 ·have key:∀(ms:List (Nat×U)),(∀q,q∈bT ms→q∈bT mk)→ef n ms→allM H1 ms→allM H' (yD n m ms):=by
    intro ms
    induction ms with
    | nil=>intro _ _ _;trivial
    | cons y ms ih=>
     obtain⟨q,e⟩:=y
     intro kB hg eX
     refine⟨?_,ih (fun q' sK=>kB q' (by simp[bT,sK])) hg.2 eX.2⟩
     have h1:=eX.1
     have Jg:¬q<n:=by have:=hg.1;omega
     rw[bS,C7 q Jg] at h1
     rw[bS,eS,List.getElem?_append_right (by rw[List.length_append,qF];omega),List.getElem?_mapIdx,List.length_append,qF,show q+m - (n+R.length)=q - n by omega,h1]
     unfold kY
     have:q - n+n=q:=by omega
     simp[kB q (by simp[bT]),this]
  rw[←hn,←hm]
  exact key mk (fun _ h=>h) iP iZ
 ·rw[kW]
  rw[kW] at hv
  exact uV C _ _ hX hv
 ·intro k e b h hl
  rcases aO k e b h hl with⟨q,e1,h1,h2,h3⟩ | ⟨q,rfl,h2,h3⟩
  ·rcases dY q e1 b h2 h3 with h | ⟨r0,e0,k2,k3,k4⟩
   ·exact .inl h
   ·exact .inr ⟨r0,e0,(ew r0 e0 k3).1,k4⟩
  ·exact .inr ⟨_,e,(fV q e h2).1,h3⟩
 ·exact c9.block k hk fun r e h1 h2=>jD r e (ew r e h1).1 ((sP r e k (ew r e h1).2).1 h2)
 ·intro k e b h hl ai
  rcases aO k e b h hl with⟨q,e1,h1,h2,h3⟩ | ⟨q,rfl,h2,h3⟩
  ·rcases dY q e1 b h2 h3 with h | ⟨r0,e0,k2,k3,k4⟩
   ·omega
   ·intro hk;exact hk r0 e0 (ew r0 e0 k3).1 k4
  ·intro hk;exact hk _ e (fV q e h2).1 h3
/-! how arguments read -/
def AX(H0 R:List U)(x x0:AV):Prop:=∀(E E0:Env)(w:World)(v:Value),HR E w (H0++R)→
 (∀z b,E0.aD z b↔z=0∧b<w.heap.size∧∀(r:Nat)(e:U),H0[r]? =some e→¬aE E r e b)→
 (∀r,r<H0.length→E0.ρ r=E.ρ r∧E0.ver r=E.ver r∧(E0.abs r↔E.abs r)∧E0.pl r=E.pl r)→ah E w x v→ah E0 w x0 v
theorem oY{H0 R:List U}:uY H0 R [] []:=fun E E0 w vs _ _ _ h=>by rw[aw] at h⊢;exact h
theorem gx{H0 R:List U}{x x0:AV}{xs sM:List AV}(h:AX H0 R x x0)(k:uY H0 R xs sM):uY H0 R (x::xs) (x0::sM):=fun E E0 w vs hr hz oZ hv=>by
 rw[aw] at hv⊢
 obtain⟨v,cQ,rfl,h1,h2⟩:=hv
 exact⟨v,cQ,rfl,h E E0 w v hr hz oZ h1,k E E0 w cQ hr hz oZ h2⟩
theorem mL{H0 R:List U}{x:AV}(hz:mJ x)(ho:cL (· <H0.length) x):AX H0 R x x:=fun E E0 w v _ _ oZ h=>
 yF ⟨fun r hr=>(oZ r hr).2.1,fun r hr=>(oZ r hr).1,fun r hr=>(oZ r hr).2.2.1,fun r hr=>(oZ r hr).2.2.2⟩ x v hz ho h
theorem Jh{H0 R:List U}{z:Nat}{l:List UInt8}:AX H0 R (.bs z l) (.bs 0 l):=fun E E0 w v hr hz _ h=>by
 rw[ah] at h⊢
 obtain⟨a,n,c,rfl,h1,h2,h3,h4,h5⟩:=h
 refine⟨a,n,c,rfl,h1,h2,h3,h4,fun i x hx=> ?_⟩
 obtain⟨b,o,h6,h7,h8⟩:=h5 i x hx
 exact⟨b,o,h6,(hz 0 b).2 ⟨rfl,hr.cJ z b h7,fun r e he hl=>hr.dj r e b (by rw[List.getElem?_append_left (List.getElem?_eq_some_iff.1 he).1];exact he) hl z h7⟩,h8⟩
theorem o0{H0 R:List U}{q ver off n:Nat}{l:List UInt8}(he:aT R q=some ⟨ver,.bytes l⟩)(hle:off+n≤l.length):AX H0 R (.own (q+H0.length) ver 1 off n) (.bs 0 ((l.drop off).take n)):=fun E E0 w v hr hz _ h=>by
 rw[bS] at he
 have iR:(H0++R)[q+H0.length]? =some ⟨ver,.bytes l⟩:=by
  rw[List.getElem?_append_right (by omega),show q+H0.length - H0.length=q by omega];exact he
 have hb:=xA hr iR rfl rfl hle h
 rw[ah] at h
 obtain⟨a',c',hv,h2,h3,h4,h5⟩:=h.2 (hr.ver _ _ iR).symm
 obtain⟨a,n',c,C8,hS⟩:=hb
 rw[hv] at C8
 cases C8
 rw[hv,ah]
 refine⟨a',n,c',rfl,hS.mK.symm,hS.le,hS.max,hS.nil,fun i x hx=> ?_⟩
 have hn:0<n:=by
  have:=(List.getElem?_eq_some_iff.1 hx).1
  simp only[List.length_take,List.length_drop] at this;omega
 obtain⟨bo,rfl,_⟩:=h5.resolve_left (by omega)
 have hc:=hS.cell _ rfl i (bv x) (by rw[de,List.getElem?_map,hx];rfl)
 rw[Addr.add_lit] at hc
 refine⟨_,_,rfl,(hz 0 _).2 ⟨rfl,hr.lt iR ⟨rfl,bo⟩,fun r e nO hl=> ?_⟩,hc⟩
 have cY:=(List.getElem?_eq_some_iff.1 nO).1
 have:=hr.inj r (q+H0.length) e _ _ (by rw[List.getElem?_append_left cY];exact nO) iR hl (aE.of ⟨rfl,bo⟩)
 omega
theorem Ji{X:AV}{rows:List U}{x:AV}{H:List U}(h:bY X rows x H):ak X rows [] x H:=by
 obtain⟨tl,h1,h2⟩:=h
 exact⟨tl,h1,h2,trivial⟩
theorem jZ{f:FuncId}{args:List AV}{H0:List U}{p q:AV→List U→Prop}(S:Spec P f args H0 p)(h:∀x H,p x H→q x H):Spec P f args H0 q:=fun w E cargs hr ha=>
 Calls.mono (S w E cargs hr ha) fun e w'⟨v,x,H1,E1,he,lJ,r⟩=>⟨v,x,H1,E1,he,h x H1 lJ,r⟩
theorem lT{f:FuncId}{args:List AV}{H0:List U}{X:AV}{rows:List U}(S:Spec P f args H0 (bY X rows)):Spec P f args H0 (ak X rows []):=jZ S fun _ _ h=>Ji h
end
end Go.Proofs.YtpbpiehcchannaaGreatDoor
