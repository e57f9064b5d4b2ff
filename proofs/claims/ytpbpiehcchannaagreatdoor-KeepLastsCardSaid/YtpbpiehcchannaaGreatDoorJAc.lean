/- Abstract values: regions that draw, calls. Conditions: none. -/
import Derived.Test.YtpbpiehcchannaaGreatDoorJAb
import Derived.Laws.Externs
import Derived.Laws.AppendOwn
import Derived.Laws.Entries
import Derived.Laws.NewFold
namespace Go.Proofs.YtpbpiehcchannaaGreatDoor
set_option linter.unusedVariables false
set_option linter.unusedSimpArgs false
open Go.RowKit
structure CE where
 i:Nat
 kT:Bool
 bE:Bool
 iY:List Nat
def uC(K p d:Nat):Nat:=cond (Nat.ble K d&&Nat.ble (d - K+1) p) (d - K) (p+d)
theorem LW{K p d:Nat}(h:d<K):uC K p d=p+d:=by
 have:Nat.ble K d=false:=by cases q:Nat.ble K d with | false=>rfl | true=>exact absurd (Nat.le_of_ble_eq_true q) (by omega)
 simp[uC,this]
theorem LX{K p d d0:Nat}(h:p+d=uC K p d0):d=d0:=by
 unfold uC at h
 cases q:(Nat.ble K d0&&Nat.ble (d0 - K+1) p) with
 | false=>rw[q] at h;simp only[cond_false] at h;omega
 | true=>
  rw[q] at h
  rw[Bool.and_eq_true] at q
  have q1:=Nat.le_of_ble_eq_true q.1
  have q2:=Nat.le_of_ble_eq_true q.2
  simp only[cond_true] at h;omega
def qo(p d:Nat):Nat:=uC 10000 p d
theorem xE{p d:Nat}(h:d<10000):qo p d=p+d:=LW h
theorem LY{p d d0:Nat}(h:p+d=qo p d0):d=d0:=LX h
def qp(p:Nat)(c:CE)(H:List J):Nat→Option J:=match c.kT with
 | true=>fun r=>if(c.iY.map (qo p)).contains r then none else bb H r
 | false=>fun r=>if(c.iY.map (qo p)).contains r then bb H r else none
theorem xF{p:Nat}{c:CE}{H:List J}{r:Nat}{e:J}(h:qp p c H r=some e):(c.kT=true∧(∀d∈c.iY,r≠qo p d)∨c.kT=false∧∃d∈c.iY,r=qo p d)∧H[r]? =some e:=by
 unfold qp at h
 cases hs:c.kT with
 | true=>
  simp only[hs] at h
  split at h
  ·cases h
  ·rename_i hc
   rw[cj] at h
   refine⟨.inl ⟨rfl,fun d hd he=>hc ?_⟩,h⟩
   simp only[List.contains_iff_mem,List.mem_map]
   exact⟨d,hd,he.symm⟩
 | false=>
  simp only[hs] at h
  split at h
  ·rename_i hc
   rw[cj] at h
   simp only[List.contains_iff_mem,List.mem_map] at hc
   obtain⟨d,hd,he⟩:=hc
   exact⟨.inr ⟨rfl,d,hd,he.symm⟩,h⟩
  ·cases h
def qs(tb:TypeId→Option TI)(P:Program)(p:Nat)(ops:Array Oper):List CE→(St→Prop)→St→Prop
 | [],K,s=>K s
 | c::cs,K,s=>match qe ops.toList c.i with
  | none=>False
  | some o=>AY tb P p ops.toList (qp p c s.H) c.bE o s (qs tb P p ops cs K)
def b5(ops:Array Oper)(i:Nat):Option Tmp:=(ops[i]?).bind (·.dst)
def dW(B:List Nat)(i j:Nat):Bool:=(B.getD i 0).testBit j
def kU(ops:Array Oper)(i:Nat):Bool:=match ops[i]? with
 | some o=>mY o
 | none=>false
def xG(R:CE→CE→Bool):List CE→Bool
 | []=>true
 | c::cs=>cs.all (R c)&&xG R cs
def A0(ops:Array Oper)(nt:Nat)(B:List Nat)(cs:List CE):Bool:=
 (List.range ops.size).all (fun i=>cs.any (fun c=>c.i==i))&&cs.all (fun c=>decide (c.i<ops.size))&&
 xG (fun a b=>a.i !=b.i&& !dW B a.i b.i&&(!kU ops a.i||dW B b.i a.i)) cs&&
 (List.range ops.size).all (fun i=>(List.range ops.size).all fun j=> !dW B i j||(match ops[i]? with | none=>false | some o=>o.after.any fun e=>Region.binds .any e&&(e.on==j||dW B e.on j)))&&
 LZ .any ops&&L0 ops nt&&
 (List.range ops.size).all (fun i=>match ops[i]? with | none=>true | some o=>(kz ops o).all fun k=>(List.range ops.size).all fun j=>b5 ops j !=some k||dW B i j||dW B j i)&&
 cs.all (fun a=> !a.bE||(a.kT&&cs.all fun b=>b.i==a.i|| !b.kT||dW B b.i a.i||dW B a.i b.i))&&
 cs.all (fun a=> !a.kT||(List.range ops.size).all fun j=>j==a.i||dW B a.i j||(match b5 ops j with | none=>true | some d=>a.iY.contains d))&&
 cs.all (fun a=>a.kT||a.iY.all fun d=>b5 ops a.i==some d||((List.range ops.size).all (fun j=>b5 ops j !=some d||dW B a.i j)&&cs.all fun b=>b.i==a.i|| !b.bE||dW B b.i a.i||dW B a.i b.i||b.iY.contains d))&&decide (nt≤10000)
def gM(own:Option Nat)(bE:Bool)(us:Us):Us:=if bE then us else us.filter (fun q=>own==some q.1)
theorem sj{V:Nat→Option J}{bE:Bool}{own:Option Nat}:∀{us:Us}{H:List J},lD V bE own us→(∀r e,own≠some r→V r=some e→H[r]? =some e)→aM H us=aM H (gM own bE us)
 | [],H,_,_=>by unfold gM;split<;>rfl
 | (r,e)::us,H,cq,hV=>by
  unfold gM
  cases bE with
  | true=>rfl
  | false=>
   simp only[Bool.false_eq_true,if_false,List.filter_cons]
   by_cases ho:own=some r
   ·simp only[ho,beq_self_eq_true,if_true,aM,bK]
    have:=sj (us:=us) (H:=H.set r e) cq.2 (fun r' e' h1 h2=>by
     rw[List.getElem?_set_ne (fun h=>h1 (by rw[ho,h]))];exact hV r' e' h1 h2)
    unfold gM at this
    rw[this,ho];rfl
   ·have aG:(own==some r)=false:=by simpa using ho
    simp only[aG,Bool.false_eq_true,if_false,aM,bK]
    have he:=hV r e ho (cq.1.resolve_left ho)
    have kW:H.set r e=H:=by
     apply List.ext_getElem?
     intro k
     by_cases hk:r=k
     ·subst hk;rw[List.getElem?_set_self (List.getElem?_eq_some_iff.1 he).1,he]
     ·rw[List.getElem?_set_ne hk]
    rw[kW]
    have:=sj (us:=us) (H:=H) cq.2 hV
    unfold gM at this
    rw[this];rfl
theorem A3{V:Nat→Option J}{bE:Bool}{own:Option Nat}:∀{us:Us},lD V bE own us→∀r,fb (gM own bE us) r≠none→own=some r∨(bE=true∧V r≠none)
 | [],_,r,h=>by unfold gM at h;split at h<;>simp[fb] at h
 | (q,e)::us,cq,r,h=>by
  have ih:=A3 (us:=us) cq.2 r
  unfold gM at h ih
  cases bE with
  | true=>
   simp only[if_true,fb] at h ih
   by_cases hl:fb us r=none
   ·simp only[hl] at h
    by_cases hq:q=r
    ·subst hq;exact(cq.1).imp id fun h=>⟨rfl,h⟩
    ·simp[hq] at h
   ·simpa using ih hl
  | false=>
   simp only[Bool.false_eq_true,if_false,List.filter_cons] at h ih
   by_cases ho:own=some q
   ·simp only[ho,beq_self_eq_true,if_true,fb] at h ih
    by_cases hl:fb (us.filter fun x=>some q==some x.1) r=none
    ·simp only[hl] at h
     by_cases hq:q=r
     ·left;rw[ho,hq]
     ·simp[hq] at h
    ·rw[ho];simpa using ih hl
   ·have aG:(own==some q)=false:=by simpa using ho
    simp only[aG,Bool.false_eq_true,if_false] at h
    simpa using ih h
theorem uD(dst:Nat→Option Tmp)(L:Nat→Bool):∀(a b:Tr)(s:St),bW dst L (a++b) s=bW dst L b (bW dst L a s)
 | [],b,s=>rfl
 | (i,v,us)::a,b,s=>by simp only[List.cons_append,bW];exact uD dst L a b _
theorem A4(dst:Nat→Option Tmp){L L':Nat→Bool}:∀{a:Tr}{s:St},(∀y∈a,L y.1=L' y.1)→bW dst L a s=bW dst L' a s
 | [],s,_=>rfl
 | (i,v,us)::a,s,h=>by
  simp only[bW]
  rw[h (i,v,us) (by simp)]
  exact A4 dst (fun y hy=>h y (by simp[hy]))
theorem A5(dst:Nat→Option Tmp){L:Nat→Bool}:∀{a:Tr}{s:St},(∀y∈a,L y.1=false)→bW dst L a s=s
 | [],s,_=>rfl
 | (i,v,us)::a,s,h=>by
  simp only[bW]
  rw[h (i,v,us) (by simp)]
  exact A5 dst (fun y hy=>h y (by simp[hy]))
section
variable {P:Program}
def A6(P:Program)(ops:Array Oper)(p:Nat)(cs:List CE)(s:St)(y:Nat×AV×Us):Prop:=
 ∃c∈cs,∃o,c.i=y.1∧ops[y.1]? =some o∧(∀r,fb y.2.2 r≠none→fN p o.dst=some r∨(c.bE=true∧qp p c s.H r≠none))∧
  (mY o=false→∃uE,lD (qp p c s.H) c.bE (fN p o.dst) uE∧gM (fN p o.dst) c.bE uE=y.2.2∧sh P ops o s.t (qp p c s.H) (fun v us=>v=y.2.1∧us=uE))
def kX(P:Program)(ops:Array Oper)(p:Nat)(cs:List CE)(s0:St):Tr→Tr→Prop
 | _,[]=>True
 | pre,y::t=>A6 P ops p cs (bW (b5 ops) (fun _=>true) pre s0) y∧kX P ops p cs s0 (pre++[y]) t
theorem xH{ops:Array Oper}{p:Nat}{cs:List CE}{s0:St}:∀{a pre b:Tr},kX P ops p cs s0 pre (a++b)↔kX P ops p cs s0 pre a∧kX P ops p cs s0 (pre++a) b
 | [],pre,b=>by simp[kX]
 | y::a,pre,b=>by
  simp only[List.cons_append,kX]
  rw[xH (a:=a) (pre:=pre++[y])]
  simp[and_assoc,List.append_assoc]
theorem L1{ops:Array Oper}{p:Nat}{cs:List CE}{s0:St}{t1 t2:Tr}{y:Nat×AV×Us}(h:kX P ops p cs s0 [] (t1++y::t2)):A6 P ops p cs (bW (b5 ops) (fun _=>true) t1 s0) y:=by
 have:=(xH.1 h).2
 simpa using this.1
theorem saturate {tb : TypeId → Option TI} (ay : cD P tb) {ops : Array Oper} {p : Nat} {cs : List CE} {s0 : St} {K : St → Prop} : ∀ (rest : List CE) (tr : Tr), (∀ c ∈ rest, c ∈ cs) → kX P ops p cs s0 [] tr → qs tb P p ops rest K (bW (b5 ops) (fun _ => true) tr s0) →
    ∃t2 lE,t2.map (·.1)++lE.map (·.i)=rest.map (·.i)∧(∀c∈lE,c∈cs)∧(∀c,lE.head? =some c→kU ops c.i=true)∧kX P ops p cs s0 [] (tr++t2)∧(∀y∈t2,kU ops y.1=false)∧qs tb P p ops lE K (bW (b5 ops) (fun _=>true) (tr++t2) s0)
 | [],tr,_,hT,h=>⟨[],[],rfl,by simp,by simp,by simpa using hT,by simp,by simpa using h⟩
 | c::rest,tr,c7,hT,h=>by
  by_cases hc:kU ops c.i=true
  ·exact⟨[],c::rest,rfl,c7,fun c' h'=>by simp at h';rw[←h'];exact hc,by simpa using hT,by simp,by simpa using h⟩
  ·unfold qs at h
   split at h
   ·exact h.elim
   rename_i o ho
   rw[rR] at ho
   have sk:ops[c.i]? =some o:=by simpa using ho
   have L2:mY o=false:=by
    simp only[kU,sk] at hc
    simpa using hc
   obtain⟨post,jY,hex,zQ⟩:=Fs ay h
   obtain⟨v,us,rfl⟩:=zQ L2
   obtain⟨cq,hK⟩:=jY v us ⟨rfl,rfl⟩
   have hd:b5 ops c.i=o.dst:=by simp[b5,sk]
   have heq:(⟨bc (bW (b5 ops) (fun _=>true) tr s0).t o.dst v,aM (bW (b5 ops) (fun _=>true) tr s0).H us⟩:St)=bW (b5 ops) (fun _=>true) (tr++[(c.i,v,gM (fN p o.dst) c.bE us)]) s0:=by
    rw[uD]
    simp only[bW,if_true,nX,hd]
    rw[←sj cq (fun r e _ h=>(xF h).2)]
   rw[heq] at hK
   have bO:kX P ops p cs s0 [] (tr++[(c.i,v,gM (fN p o.dst) c.bE us)]):=by
    refine xH.2 ⟨hT,?_,trivial⟩
    refine⟨c,c7 c (by simp),o,rfl,sk,fun r hr=>A3 cq r hr,fun _=>⟨us,cq,rfl,?_⟩⟩
    simpa using hex
   obtain⟨t2,lE,h1,h2,h3,h4,h5,h6⟩:=saturate ay rest _ (fun c' h'=>c7 c' (by simp[h'])) bO hK
   refine⟨(c.i,v,gM (fN p o.dst) c.bE us)::t2,lE,by simp[h1],h2,h3,by simpa using h4,fun y hy=> ?_,by simpa using h6⟩
   rcases List.mem_cons.1 hy with rfl | hy
   ·simpa using hc
   ·exact h5 y hy
theorem Rel.drew{w0:World}{keep:Bs}{E:Env}{s:St}{a:Act}{w:World}(h:Rel w0 keep E s a w):Rel w0 keep E s a w.drew:=by
 have X:Ext E E w w.drew:=⟨fun _=>Nat.le_refl _,fun _ _=>rfl,fun _ _=>Iff.rfl,fun _ _ h=>h,fun _ _ _=>rfl,fun _ cur T fz h=>⟨cur,T,fz,h,Nat.le_refl _⟩,fun _ _ _ _ h=>h⟩
 exact⟨h.len,fun i x hx=>fD X x _ (h.tmps i x hx),⟨h.defers.1,h.defers.2.ext X⟩,h.hr.drew,⟨h.fr.os,h.fr.tape,h.fr.output,h.fr.size,h.fr.block,h.fr.grow,h.fr.rows⟩,h.ext.trans X,h.aC,h.rows⟩
end

section
variable {P:Program}
structure uF(ops:Array Oper)(nt:Nat)(B:List Nat)(cs:List CE):Prop where
 cover:∀i,i<ops.size→∃c∈cs,c.i=i
 range:∀c∈cs,c.i<ops.size
 pair:∀l1 a l2 b l3,cs=l1++a::(l2++b::l3)→a.i≠b.i∧dW B a.i b.i=false∧(kU ops a.i=true→dW B b.i a.i=true)
 xI:∀i j o,ops[i]? =some o→j<ops.size→dW B i j=true→∃e∈o.after,Region.binds .any e=true∧(e.on=j∨dW B e.on j=true)
 back:∀i o,ops[i]? =some o→∀e∈o.after,Region.binds .any e=true→e.on<i
 xJ:∀i d,b5 ops i=some d→d<nt
 A7:∀i j d,b5 ops i=some d→b5 ops j=some d→i=j
 look:∀i o,ops[i]? =some o→∀k∈kz ops o,∀j,b5 ops j=some k→dW B i j=true∨dW B j i=true
 bE:∀a∈cs,a.bE=true→a.kT=true∧∀b∈cs,b.i≠a.i→b.kT=true→dW B b.i a.i=true∨dW B a.i b.i=true
 iY:∀a∈cs,a.kT=true→∀j d,b5 ops j=some d→j≠a.i→dW B a.i j=true∨d∈a.iY
 own:∀a∈cs,a.kT=false→∀d∈a.iY,b5 ops a.i=some d∨((∀j,b5 ops j=some d→dW B a.i j=true)∧∀b∈cs,b.i≠a.i→b.bE=true→dW B b.i a.i=true∨dW B a.i b.i=true∨d∈b.iY)
 small:nt≤10000
theorem oY{ops:Array Oper}{j:Nat}{d:Tmp}(h:b5 ops j=some d):j<ops.size:=by
 unfold b5 at h
 cases ho:ops[j]? with
 | none=>rw[ho] at h;cases h
 | some o=>exact(Array.getElem?_eq_some_iff.1 ho).1
theorem Ft{R:CE→CE→Bool}:∀{cs:List CE},xG R cs=true→∀l1 a l2 b l3,cs=l1++a::(l2++b::l3)→R a b=true
 | [],_,l1,a,l2,b,l3,h=>by simp at h
 | c::cs,hp,l1,a,l2,b,l3,h=>by
  simp only[xG,Bool.and_eq_true] at hp
  cases l1 with
  | nil=>
   simp only[List.nil_append,List.cons.injEq] at h
   obtain⟨rfl,rfl⟩:=h
   exact List.all_eq_true.1 hp.1 b (by simp)
  | cons x l1=>
   simp only[List.cons_append,List.cons.injEq] at h
   exact Ft hp.2 l1 a l2 b l3 h.2
theorem L3{ops:Array Oper}{nt:Nat}{B:List Nat}{cs:List CE}(h:A0 ops nt B cs=true):uF ops nt B cs:=by
 unfold A0 at h
 simp only[Bool.and_eq_true] at h
 obtain⟨⟨⟨⟨⟨⟨⟨⟨⟨⟨h1,h2⟩,h3⟩,h4⟩,h5⟩,h6⟩,h7⟩,h8⟩,h9⟩,km⟩,nO⟩:=h
 refine⟨fun i hi=> ?_,fun c hc=> ?_,fun l1 a l2 b l3 he=> ?_,fun i j o ho hj hd=> ?_,fun i o ho e he hb=> ?_,fun i d hd=> ?_,fun i j d hi hj=> ?_,fun i o ho k hk j hj=> ?_,fun a ha he=> ?_,fun a ha hs j d hj aG=> ?_,fun a ha hs d hd=> ?_,of_decide_eq_true nO⟩
 ·have:=List.all_eq_true.1 h1 i (List.mem_range.2 hi)
  obtain⟨c,hc,he⟩:=List.any_eq_true.1 this
  exact⟨c,hc,by simpa using he⟩
 ·simpa using List.all_eq_true.1 h2 c hc
 ·have:=Ft h3 l1 a l2 b l3 he
  simp only[Bool.and_eq_true,bne_iff_ne,ne_eq,Bool.not_eq_true',Bool.or_eq_true] at this
  refine⟨this.1.1,this.1.2,fun hc=> ?_⟩
  rcases this.2 with h | h
  ·rw[hc] at h;cases h
  ·exact h
 ·have hi:=(Array.getElem?_eq_some_iff.1 ho).1
  have:=List.all_eq_true.1 (List.all_eq_true.1 h4 i (List.mem_range.2 hi)) j (List.mem_range.2 hj)
  simp only[ho,hd,Bool.not_true,Bool.false_or] at this
  obtain⟨e,he,hb⟩:=Array.any_eq_true'.1 this
  simp only[Bool.and_eq_true,Bool.or_eq_true,beq_iff_eq] at hb
  exact⟨e,he,hb.1,hb.2⟩
 ·have hi:=(Array.getElem?_eq_some_iff.1 ho).1
  have:=List.all_eq_true.1 h5 i (List.mem_range.2 hi)
  rw[ho] at this
  have h2:=Array.all_eq_true'.1 this e he
  simpa [hb] using h2
 ·have:=List.all_eq_true.1 h6 i (List.mem_range.2 (oY hd))
  simp only[Bool.and_eq_true] at this
  unfold b5 at hd
  rw[hd] at this
  simpa using this.1
 ·have:=List.all_eq_true.1 h6 i (List.mem_range.2 (oY hi))
  simp only[Bool.and_eq_true] at this
  have h2:=List.all_eq_true.1 this.2 j (List.mem_range.2 (oY hj))
  unfold b5 at hi hj
  rw[hi,hj] at h2
  simpa using h2
 ·have hi:=(Array.getElem?_eq_some_iff.1 ho).1
  have:=List.all_eq_true.1 h7 i (List.mem_range.2 hi)
  simp only[ho] at this
  have h2:=List.all_eq_true.1 (List.all_eq_true.1 this k hk) j (List.mem_range.2 (oY hj))
  simp only[hj,bne_self_eq_false,Bool.false_or] at h2
  exact(Bool.or_eq_true _ _).mp h2
 ·have:=List.all_eq_true.1 h8 a ha
  simp only[he,Bool.not_true,Bool.false_or,Bool.and_eq_true] at this
  refine⟨this.1,fun b hb aG hs=> ?_⟩
  have h2:=List.all_eq_true.1 this.2 b hb
  simp only[hs,Bool.not_true,Bool.or_false,Bool.or_eq_true,beq_iff_eq] at h2
  rcases h2 with(h2 | h2) | h2
  ·exact absurd h2 aG
  ·exact .inl h2
  ·exact .inr h2
 ·have:=List.all_eq_true.1 h9 a ha
  simp only[hs,Bool.not_true,Bool.false_or] at this
  have h2:=List.all_eq_true.1 this j (List.mem_range.2 (oY hj))
  simp only[hj,Bool.or_eq_true,beq_iff_eq] at h2
  rcases h2 with(h2 | h2) | h2
  ·exact absurd h2 aG
  ·exact .inl h2
  ·exact .inr (by simpa using h2)
 ·have:=List.all_eq_true.1 km a ha
  simp only[hs,Bool.false_or] at this
  have h2:=List.all_eq_true.1 this d hd
  simp only[Bool.or_eq_true,beq_iff_eq,Bool.and_eq_true] at h2
  refine h2.imp id fun⟨h3,h4⟩=>⟨fun j hj=> ?_,fun b hb aG he=> ?_⟩
  ·have h5:=List.all_eq_true.1 h3 j (List.mem_range.2 (oY hj))
   simpa [hj] using h5
  ·have h5:=List.all_eq_true.1 h4 b hb
   simp only[he,Bool.not_true,Bool.or_false,Bool.or_eq_true,beq_iff_eq] at h5
   rcases h5 with((h5 | h5) | h5) | h5
   ·exact absurd h5 aG
   ·exact .inl h5
   ·exact .inr (.inl h5)
   ·exact .inr (.inr (by simpa using h5))
structure A8(tb:TypeId→Option TI)(P:Program)(p:Nat)(ops:Array Oper)(cs:List CE)(s0:St)(K:St→Prop)(w0:World)(keep:Bs)(listed:Array Bool)(a:Act)(w:World):Prop where
 size:listed.size=ops.size
 closed:∀j oj,ops[j]? =some oj→listed.getD j false=true→∀e∈oj.after,Region.binds .any e=true→listed.getD e.on false=true
 ex:∃(tr:Tr)(rest:List CE),tr.map (·.1)++rest.map (·.i)=cs.map (·.i)∧(∀c∈rest,c∈cs)∧(∀c,rest.head? =some c→kU ops c.i=true)∧kX P ops p cs s0 [] tr∧
  (∀y∈tr,kU ops y.1=true→listed.getD y.1 false=true)∧qs tb P p ops rest K (bW (b5 ops) (fun _=>true) tr s0)∧(∀i,listed.getD i false=true→i∈tr.map (·.1))∧
  ∃E,Rel w0 keep E (bW (b5 ops) (fun i=>listed.getD i false) tr s0) a w
theorem A9 {ops : Array Oper} {nt : Nat} {B : List Nat} {cs : List CE} (F : uF ops nt B cs) {listed : Array Bool} (hs : listed.size = ops.size) (hc : ∀ j oj, ops[j]? = some oj → listed.getD j false = true → ∀ e ∈ oj.after, Region.binds .any e = true → listed.getD e.on false = true) :
    ∀i j,listed.getD i false=true→j<ops.size→dW B i j=true→listed.getD j false=true:=by
 intro i
 induction i using Nat.strongRecOn with
 | _ i ih=>
  intro j hi hj hd
  have ah:i<ops.size:=by
   by_cases h:i<listed.size
   ·omega
   ·simp[h] at hi
  obtain⟨e,he,hb,nT⟩:=F.xI i j ops[i] (by simp[ah]) hj hd
  have hon:=hc i _ (by simp[ah]) hi e he hb
  rcases nT with rfl | nT
  ·exact hon
  ·exact ih e.on (F.back i _ (by simp[ah]) e he hb) j hon hj nT
theorem Fu {ops : Array Oper} {nt : Nat} {B : List Nat} {cs : List CE} (F : uF ops nt B cs) {listed : Array Bool} (hs : listed.size = ops.size) (hc : ∀ j oj, ops[j]? = some oj → listed.getD j false = true → ∀ e ∈ oj.after, Region.binds .any e = true → listed.getD e.on false = true)
    {i:Nat} {o:Oper} (ho:ops[i]? =some o) (hr:∀e∈o.after,Region.binds .any e=true→listed.getD e.on false=true):∀j,j<ops.size→dW B i j=true→listed.getD j false=true:=by
 intro j hj hd
 obtain⟨e,he,hb,nT⟩:=F.xI i j o ho hj hd
 rcases nT with rfl | nT
 ·exact hr e he hb
 ·exact A9 F hs hc e.on j (hr e he hb) hj nT
theorem lF{ops:Array Oper}{nt:Nat}{B:List Nat}{cs:List CE}(F:uF ops nt B cs){l1 l2 l3:List Nat}{a b:Nat}(h:cs.map (·.i)=l1++a::(l2++b::l3)):a≠b∧dW B a b=false∧(kU ops a=true→dW B b a=true):=by
 obtain⟨c1,c2,e1,e2,e3⟩:=List.map_eq_append_iff.1 h
 obtain⟨ca,c3,e4,e5,e6⟩:=List.map_eq_cons_iff.1 e3
 obtain⟨c4,c5,e7,e8,e9⟩:=List.map_eq_append_iff.1 e6
 obtain⟨cb,c6,L4,L5,Fv⟩:=List.map_eq_cons_iff.1 e9
 have:=F.pair c1 ca c4 cb c6 (by rw[e1,e4,e7,L4])
 rwa [e5,L5] at this
end

section
variable {P:Program}
def Ba(ops:Array Oper)(p:Nat)(cs:List CE)(y:Nat×AV×Us):Prop:=
 ∃c∈cs,c.i=y.1∧∀r,fb y.2.2 r≠none→(∃d,b5 ops y.1=some d∧r=p+d)∨(c.bE=true∧(c.kT=true→∀d∈c.iY,r≠qo p d))
theorem L6{ops:Array Oper}{p:Nat}{cs:List CE}{s:St}{y:Nat×AV×Us}(h:A6 P ops p cs s y):Ba ops p cs y:=by
 obtain⟨c,hc,o,h1,h2,h3,_⟩:=h
 refine⟨c,hc,h1,fun r hr=> ?_⟩
 rcases h3 r hr with h | ⟨h4,h5⟩
 ·left
  cases hd:o.dst with
  | none=>rw[hd] at h;cases h
  | some d=>rw[hd] at h;exact⟨d,by simp[b5,h2,hd],(Option.some.inj h).symm⟩
 ·obtain⟨e,he⟩:=Option.ne_none_iff_exists'.1 h5
  exact .inr ⟨h4,fun hs=>by
   rcases(xF he).1 with q | q
   ·exact q.2
   ·rw[hs] at q;exact absurd q.1 (by simp)⟩
theorem Fw{ops:Array Oper}{p:Nat}{cs:List CE}{s0:St}:∀{tr pre:Tr},kX P ops p cs s0 pre tr→∀y∈tr,Ba ops p cs y
 | y::tr,pre,h,z,hz=>by
  rcases List.mem_cons.1 hz with rfl | hz
  ·exact L6 h.1
  ·exact Fw h.2 z hz
structure Bb(cs:List CE)(i:Nat)(t1 t2:Tr):Prop where
 b:∀y∈t1,∃l1 l2 l3,cs.map (·.i)=l1++y.1::(l2++i::l3)
 a:∀y∈t2,y.1=i∨∃l1 l2 l3,cs.map (·.i)=l1++i::(l2++y.1::l3)
theorem agree {ops : Array Oper} {nt p : Nat} {B : List Nat} {cs : List CE} (F : uF ops nt B cs) {s0 : St} {listed : Array Bool} (hs : listed.size = ops.size) (hc : ∀ j oj, ops[j]? = some oj → listed.getD j false = true → ∀ e ∈ oj.after, Region.binds .any e = true → listed.getD e.on false = true)
    {i:Nat} {o:Oper} (ho:ops[i]? =some o) (hr:∀e∈o.after,Region.binds .any e=true→listed.getD e.on false=true) (eD:listed.getD i false=false) {c:CE} (kA:c∈cs) (dF:c.i=i) {t1 t2:Tr} (pl:Bb cs i t1 t2) (hid:∀y∈t1++t2,Ba ops p cs y):
    (∀k∈kz ops o,bF (bW (b5 ops) (fun j=>listed.getD j false) (t1++t2) s0).t k=bF (bW (b5 ops) (fun _=>true) t1 s0).t k)∧
    (∀(r:Nat)(e:J),qp p c (bW (b5 ops) (fun _=>true) t1 s0).H r=some e→(bW (b5 ops) (fun j=>listed.getD j false) (t1++t2) s0).H[r]? =some e):=by
 have qt:=Fu F hs hc ho hr
 have c7:∀j,dW B j i=true→i<ops.size→listed.getD j false=false:=by
  intro j hd ah
  cases h:listed.getD j false with
  | false=>rfl
  | true=>have:=A9 F hs hc j i h ah hd;rw[eD] at this;cases this
 have oZ:=(Array.getElem?_eq_some_iff.1 ho).1
 constructor
 ·intro k hk
  refine LQ _ (fun y hy hd=> ?_) (fun y hy hd=> ?_)
  ·rcases F.look i o ho k hk y.1 hd with q | q
   ·exact qt y.1 (oY hd) q
   ·obtain⟨l1,l2,l3,h⟩:=pl.b y hy
    have:=(lF F h).2.1
    rw[q] at this;cases this
  rcases pl.a y hy with h | ⟨l1,l2,l3,h⟩
  ·rw[h];exact eD
  ·rcases F.look i o ho k hk y.1 hd with q | q
   ·have:=(lF F h).2.1
    rw[q] at this;cases this
   ·exact c7 y.1 q oZ
 ·intro r e hv
  obtain⟨mf | ⟨mf,d0,Bc,Be⟩,he⟩:=xF hv
  rotate_left
  ·-- its own row alone
   have kQ:=F.own c kA mf d0 Bc
   rw[dF] at kQ
   rw[←he]
   have Fx:∀y∈t1++t2,y.1≠i→fb y.2.2 r≠none→dW B y.1 i=true∨dW B i y.1=true:=by
    intro y hy aG ht
    obtain⟨cy,mZ,j8,im⟩:=hid y hy
    rcases im r ht with⟨d,hd,qt⟩ | ⟨nY,Fy⟩
    ·have:d=d0:=LY (qt.symm.trans Be)
     subst this
     rcases kQ with kQ | ⟨kQ,_⟩
     ·exact absurd (F.A7 y.1 i d hd kQ) aG
     ·exact .inr (kQ y.1 hd)
    ·have cA:=(F.bE cy mZ nY).1
     rcases kQ with kQ | ⟨_,kQ⟩
     ·rcases F.iY cy mZ cA i d0 kQ (by rw[j8];exact Ne.symm aG) with h | h
      ·rw[j8] at h;exact .inl h
      ·exact absurd Be (Fy cA d0 h)
     ·rcases kQ cy mZ (by rw[j8];exact aG) nY with h | h | h
      ·rw[j8] at h;exact .inl h
      ·rw[j8] at h;exact .inr h
      ·exact absurd Be (Fy cA d0 h)
   refine Fi _ (fun y hy ht=> ?_) (fun y hy ht=> ?_)
   ·obtain⟨l1,l2,l3,gN⟩:=pl.b y hy
    obtain⟨aG,dK,_⟩:=lF F gN
    rcases Fx y (by simp[hy]) aG ht with h | h
    ·rw[dK] at h;cases h
    ·obtain⟨cy,mZ,j8,_⟩:=hid y (by simp[hy])
     exact qt y.1 (by rw[←j8];exact F.range cy mZ) h
   ·rcases pl.a y hy with h | ⟨l1,l2,l3,gN⟩
    ·rw[h];exact eD
    ·obtain⟨aG,dK,_⟩:=lF F gN
     rcases Fx y (by simp[hy]) (Ne.symm aG) ht with h | h
     ·exact c7 y.1 h oZ
     ·rw[dK] at h;cases h
  obtain⟨mf,FA⟩:=mf
  rw[←he]
  refine Fi _ (fun y hy ht=> ?_) (fun y hy ht=> ?_)
  ·obtain⟨cy,mZ,j8,im⟩:=hid y (by simp[hy])
   obtain⟨l1,l2,l3,gN⟩:=pl.b y hy
   obtain⟨aG,dK,_⟩:=lF F gN
   rcases im r ht with⟨d,hd,rfl⟩ | ⟨nY,_⟩
   ·rcases F.iY c kA mf y.1 d hd (by rw[dF];exact aG) with h | h
    ·exact qt y.1 (oY hd) (by rw[←dF];exact h)
    ·exact absurd (xE (Nat.lt_of_lt_of_le (F.xJ _ _ hd) F.small)).symm (FA d h)
   ·have UR:=F.range cy mZ
    rcases(F.bE cy mZ nY).2 c kA (by rw[dF,j8];exact Ne.symm aG) mf with h | h
    ·rw[dF,j8] at h;exact qt y.1 (by omega) h
    ·rw[dF,j8,dK] at h;cases h
  ·rcases pl.a y hy with h | ⟨l1,l2,l3,gN⟩
   ·rw[h];exact eD
   ·obtain⟨aG,dK,_⟩:=lF F gN
    obtain⟨cy,mZ,j8,im⟩:=hid y (by simp[hy])
    rcases im r ht with⟨d,hd,rfl⟩ | ⟨nY,_⟩
    ·rcases F.iY c kA mf y.1 d hd (by rw[dF];exact Ne.symm aG) with h | h
     ·rw[dF,dK] at h;cases h
     ·exact absurd (xE (Nat.lt_of_lt_of_le (F.xJ _ _ hd) F.small)).symm (FA d h)
    ·rcases(F.bE cy mZ nY).2 c kA (by rw[dF,j8];exact aG) mf with h | h
     ·rw[dF,j8,dK] at h;cases h
     ·rw[dF,j8] at h;exact c7 y.1 h oZ
theorem bL{tb:TypeId→Option TI}(ay:cD P tb)(hm:P.follows .mixedOrders=true){p:Nat}{id:Nat}{ops:Array Oper}(B:List Nat)(cs:List CE){s0:St}{K:St→Prop}(cq:A0 ops s0.t.length B cs=true)(h:qs tb P p ops cs K s0):xm P id ops K s0:=by
 have F:=L3 cq
 unfold xm
 intro w0 keep E a w hR rr nn L7
 obtain⟨dst,US⟩:∃dst,dst=b5 ops:=⟨_,rfl⟩
 -- the trace's numbers are all unlike
 have Bf:∀{l1 l2:List Nat},l1++l2=cs.map (·.i)→∀x,x∈l1→x∉l2:=by
  intro l1 l2 hl x h1 h2
  obtain⟨a1,a2,rfl⟩:=List.append_of_mem h1
  obtain⟨b1,b2,rfl⟩:=List.append_of_mem h2
  have:=lF F (l1:=a1) (l2:=a2++b1) (l3:=b2) (a:=x) (b:=x) (by rw[←hl];simp)
  exact this.1 rfl
 have FB:∀(listed:Array Bool)(a:Act)(w:World),A8 tb P p ops cs s0 K w0 keep listed a w→Region.ready .any ops listed=[]→(fun e a' w'=>e=Exit.normal∧∃s' E',Rel w0 keep E' s' a' w'∧K s') Exit.normal a w:=by
  intro listed a w hI L8
  have fF:∀i,i<ops.size→listed.getD i false=true:=by
   intro i
   induction i using Nat.strongRecOn with
   | _ i ih=>
    intro hi
    cases hl:listed.getD i false with
    | true=>rfl
    | false=>
     exfalso
     have hk:i∈Region.ready .any ops listed:=by
      unfold Region.ready
      refine List.mem_filter.2 ⟨List.mem_range.2 hi,?_⟩
      have eD:i<listed.size:=by rw[hI.size];exact hi
      have bA:listed.getD i true=false:=by simpa [Array.getD,eD] using hl
      simp only[bA,Bool.not_false,Bool.true_and,Array.getElem?_eq_getElem hi,Option.map_some,Option.getD_some]
      refine Array.all_eq_true'.2 fun e he=> ?_
      cases L9:Region.binds .any e
      ·simp
      ·have hb:=F.back i _ (by simp[hi]) e he L9
       simp[ih e.on hb (by omega)]
     rw[L8] at hk
     cases hk
  obtain⟨tr,rest,h1,h2,h3,h4,h5,h6,h7,E,hE⟩:=hI.ex
  have Bg:rest=[]:=by
   cases rest with
   | nil=>rfl
   | cons c rest=>
    exfalso
    have hc:=h7 c.i (fF c.i (F.range c (h2 c (by simp))))
    exact Bf h1 c.i hc (by simp)
  subst Bg
  have heq:bW (b5 ops) (fun i=>listed.getD i false) tr s0=bW (b5 ops) (fun _=>true) tr s0:=by
   refine A4 _ fun y hy=> ?_
   have:y.1∈cs.map (·.i):=by rw[←h1];simp;exact⟨_,_,hy⟩
   obtain⟨c,hc,dF⟩:=List.mem_map.1 this
   rw[fF y.1 (by rw[←dF];exact F.range c hc)]
  exact⟨rfl,_,E,hE,by rw[heq];exact h6⟩
 have key:∀(fuel:Nat)(listed:Array Bool)(a:Act)(w:World),A8 tb P p ops cs s0 K w0 keep listed a w→((List.range ops.size).filter (fun i=> !listed.getD i true)).length≤fuel→wpAnyIn (FR rr) nn P .any ops (fun e a' w'=>e=Exit.normal∧∃s' E',Rel w0 keep E' s' a' w'∧K s') fuel listed a w:=by
  intro fuel
  induction fuel with
  | zero=>
   intro listed a w hI hf
   have rT:Region.ready .any ops listed=[]:=by
    refine List.eq_nil_iff_forall_not_mem.2 fun i hi=> ?_
    obtain⟨h1,h2,_⟩:=FC hi
    have:i∈(List.range ops.size).filter (fun i=> !listed.getD i true):=List.mem_filter.2 ⟨List.mem_range.2 h1,by simp[h2]⟩
    rw[List.eq_nil_of_length_eq_zero (Nat.le_zero.1 hf)] at this
    cases this
   exact⟨rT,FB listed a w hI rT⟩
  | succ fuel ih=>
   intro listed a w hI hf
   refine⟨FB listed a w hI,fun i hi=> ?_⟩
   obtain⟨oZ,h2,o,ho,xK⟩:=FC hi
   have eD:i<listed.size:=by rw[hI.size];exact oZ
   have gJ:listed.getD i false=false:=by simpa [Array.getD,eD] using h2
   have aI:∀j,(listed.setIfInBounds i true).getD j false=(listed.getD j false||j==i):=by
    intro j
    by_cases hj:j=i
    ·subst hj;simp[eD]
    ·simp[Array.getElem?_setIfInBounds_ne (Ne.symm hj),hj]
   have FD:((List.range ops.size).filter (fun k=> !(listed.setIfInBounds i true).getD k true)).length≤fuel:=by
    have:((List.range ops.size).filter (fun k=> !(listed.setIfInBounds i true).getD k true)).length< ((List.range ops.size).filter (fun k=> !listed.getD k true)).length:=by
     have e:(List.range ops.size).filter (fun k=> !(listed.setIfInBounds i true).getD k true)=((List.range ops.size).filter (fun k=> !listed.getD k true)).filter (fun k=>k !=i):=by
      rw[List.filter_filter]
      refine List.filter_congr fun k hk=> ?_
      by_cases uG:k=i
      ·subst uG;simp[eD]
      ·simp[Array.getElem?_setIfInBounds_ne (Ne.symm uG),uG]
     rw[e]
     have kB:i∈(List.range ops.size).filter (fun k=> !listed.getD k true):=List.mem_filter.2 ⟨List.mem_range.2 oZ,by simp[h2]⟩
     exact List.length_filter_lt_length_iff_exists.2 ⟨i,kB,by simp⟩
    omega
   have FE:∀j oj,ops[j]? =some oj→(listed.setIfInBounds i true).getD j false=true→∀e∈oj.after,Region.binds .any e=true→(listed.setIfInBounds i true).getD e.on false=true:=by
    intro j oj mU hl e he hb
    rw[aI] at hl⊢
    simp only[Bool.or_eq_true,beq_iff_eq] at hl⊢
    rcases hl with hl | rfl
    ·exact .inl (hI.closed j oj mU hl e he hb)
    ·obtain rfl:o=oj:=Option.some.inj (ho.symm.trans mU)
     exact .inl (xK e he hb)
   obtain⟨tr,rest,h1,c7,h3,h4,h5,h6,h7,E,hE⟩:=hI.ex
   have im:=Fw h4
   have Bh:b5 ops i=o.dst:=by simp[b5,ho]
   -- how the step ends
   have done : ∀ {post : AV → Us → Prop}, (∀ v us (E' : Env) (w' : World) (a' : Act), post v us → Rel w0 keep E' ⟨bc (bW (b5 ops) (fun j => listed.getD j false) tr s0).t o.dst v, aM (bW (b5 ops) (fun j => listed.getD j false) tr s0).H us⟩ a' w' → A8 tb P p ops cs s0 K w0 keep (listed.setIfInBounds i true) a' w') →
       ((Region.wanted o (yielded ops a.tmps)=true∧o.wp P a w (fun a' w'=>∃v us E',post v us∧Rel w0 keep E' ⟨bc (bW (b5 ops) (fun j=>listed.getD j false) tr s0).t o.dst v,aM (bW (b5 ops) (fun j=>listed.getD j false) tr s0).H us⟩ a' w') (fun e a' w'=>e=Exit.normal∧∃s' E',Rel w0 keep E' s' a' w'∧K s'))∨
        (Region.wanted o (yielded ops a.tmps)=false∧∃v us,post v us∧Rel w0 keep E ⟨bc (bW (b5 ops) (fun j=>listed.getD j false) tr s0).t o.dst v,aM (bW (b5 ops) (fun j=>listed.getD j false) tr s0).H us⟩ (a.put o.dst undef) w))→
       wpOpIn (FR rr) nn P ops (fun e a' w'=>e=Exit.normal∧∃s' E',Rel w0 keep E' s' a' w'∧K s') i (wpAnyIn (FR rr) nn P .any ops (fun e a' w'=>e=Exit.normal∧∃s' E',Rel w0 keep E' s' a' w'∧K s') fuel (listed.setIfInBounds i true)) a w:=by
    intro post FF hx
    unfold wpOpIn
    simp only[ho]
    rcases hx with⟨hw,Ma⟩ | ⟨hw,v,us,hp,iZ⟩
    ·rw[if_pos hw]
     exact Oper.wpIn_mono (fun a' w'⟨v,us,E',hp,iZ⟩=>ih _ _ _ (FF v us E' w' a' hp iZ) FD) (kx Ma rr nn (L7 o (Array.mem_toList_iff.2 (Array.mem_of_getElem? ho))))
    ·rw[if_neg (by rw[hw];simp)]
     exact⟨fun _ _=>trivial,ih _ _ _ (FF v us E w _ hp iZ) FD⟩
   obtain⟨cI,Mb,Mc⟩:=F.cover i oZ
   by_cases kB:i∈tr.map (·.1)
   ·obtain⟨y,hy,o0⟩:=List.mem_map.1 kB
    obtain⟨t1,t2,mg⟩:=List.append_of_mem hy
    have FG:∀z∈t1,∃l1 l2 l3,cs.map (·.i)=l1++z.1::(l2++i::l3):=by
     intro z hz
     obtain⟨a1,a2,rfl⟩:=List.append_of_mem hz
     exact⟨a1.map (·.1),a2.map (·.1),t2.map (·.1)++rest.map (·.i),by rw[←h1,mg];simp[o0]⟩
    have xL:∀z∈t2,∃l1 l2 l3,cs.map (·.i)=l1++i::(l2++z.1::l3):=by
     intro z hz
     obtain⟨b1,b2,rfl⟩:=List.append_of_mem hz
     exact⟨t1.map (·.1),b1.map (·.1),b2.map (·.1)++rest.map (·.i),by rw[←h1,mg];simp[o0]⟩
    have Md:kU ops i=false:=by
     cases hc:kU ops i with
     | false=>rfl
     | true=>
      have:=h5 y hy (by rw[o0];exact hc)
      rw[o0,gJ] at this;cases this
    rw[mg] at h4 im hE done
    obtain⟨c,kA,o',dF,sk,UT,Me⟩:=L1 h4
    rw[o0] at sk dF
    obtain rfl:o=o':=Option.some.inj (ho.symm.trans sk)
    obtain⟨uE,uH,Mf,hex⟩:=Me (by simpa [kU,ho] using Md)
    have pl:Bb cs i t1 (y::t2):=⟨FG,fun z hz=>by
     rcases List.mem_cons.1 hz with rfl | hz
     ·exact .inl o0
     ·exact .inr (xL z hz)⟩
    have ag:=agree F (s0:=s0) hI.size hI.closed ho xK gJ kA dF pl im
    refine done (post:=fun v us=>v=y.2.1∧us=uE) ?_ (hex w0 keep E _ a w _ hE ag.1 ag.2)
    rintro v us E' w' a' ⟨rfl,rfl⟩ iZ
    have fc:(⟨bc (bW (b5 ops) (fun j=>listed.getD j false) (t1++y::t2) s0).t o.dst y.2.1,aM (bW (b5 ops) (fun j=>listed.getD j false) (t1++y::t2) s0).H us⟩:St)=bW (b5 ops) (fun j=>(listed.setIfInBounds i true).getD j false) (t1++y::t2) s0:=by
     rw[sj uH (fun r e _ h=>ag.2 r e h),Mf,←Bh]
     have ey:y=(i,y.2.1,y.2.2):=by rw[←o0]
     have dX:=LP (b5 ops) (L:=fun j=>listed.getD j false) (t1:=t1) (t2:=t2) (i:=i) (v:=y.2.1) (us:=y.2.2) (s:=s0) gJ (fun z hz=> ?_) (fun z hz=> ?_) (fun z hz k nc uI=> ?_) (fun z hz r cd hr2=> ?_)
     ·rw[←ey] at dX
      have Mg:(fun j=>(listed.setIfInBounds i true).getD j false)=fun j=>listed.getD j false||j==i:=funext aI
      rw[Mg,dX];rfl
     ·obtain⟨l1,l2,l3,gN⟩:=FG z hz
      exact(lF F gN).1
     ·obtain⟨l1,l2,l3,gN⟩:=xL z hz
      exact Ne.symm (lF F gN).1
     ·obtain⟨l1,l2,l3,gN⟩:=xL z hz
      exact absurd (F.A7 _ _ _ nc uI) (lF F gN).1
     ·obtain⟨l1,l2,l3,gN⟩:=xL z hz
      obtain⟨aG,dK,_⟩:=lF F gN
      obtain⟨cz,qu,sq,FH⟩:=im z (by simp[hz])
      have Mh:=F.range cz qu
      rw[sq] at Mh
      have FI:dW B z.1 i=true→listed.getD z.1 false=false:=by
       intro hd
       cases uJ:listed.getD z.1 false with
       | false=>rfl
       | true=>have:=A9 F hI.size hI.closed z.1 i uJ oZ hd;rw[gJ] at this;cases this
      obtain⟨ci,uK,sr,FJ⟩:=im y (by simp)
      rw[o0] at sr FJ
      rcases FJ r cd with⟨d,hd,rfl⟩ | ⟨nY,uL⟩
      ·rcases FH _ hr2 with⟨d',lG,he⟩ | ⟨xM,FK⟩
       ·have:d=d':=Nat.add_left_cancel he
        subst this
        exact absurd (F.A7 _ _ _ hd lG) aG
       ·rcases F.iY cz qu (F.bE cz qu xM).1 i d hd (by rw[sq];exact aG) with h | h
        ·rw[sq] at h;exact FI h
        ·exact absurd (xE (Nat.lt_of_lt_of_le (F.xJ _ _ hd) F.small)).symm (FK (F.bE cz qu xM).1 d h)
      ·have mf:=(F.bE ci uK nY).1
       rcases FH _ hr2 with⟨d',lG,he⟩ | ⟨xM,FK⟩
       ·rcases F.iY ci uK mf z.1 d' lG (by rw[sr];exact Ne.symm aG) with h | h
        ·rw[sr,dK] at h;cases h
        ·exact absurd (he.trans (xE (Nat.lt_of_lt_of_le (F.xJ _ _ lG) F.small)).symm) (uL mf d' h)
       ·rcases(F.bE ci uK nY).2 cz qu (by rw[sr,sq];exact Ne.symm aG) (F.bE cz qu xM).1 with h | h
        ·rw[sr,sq] at h;exact FI h
        ·rw[sr,sq,dK] at h;cases h
    rw[fc] at iZ
    refine⟨by simp[hI.size],FE,t1++y::t2,rest,by rw[←mg];exact h1,c7,h3,h4,fun z hz hc=> ?_,by rw[←mg];exact h6,fun j hj=> ?_,E',iZ⟩
    ·rw[aI,h5 z (by rw[mg];exact hz) hc];rfl
    ·rw[aI] at hj
     simp only[Bool.or_eq_true,beq_iff_eq] at hj
     rw[←mg]
     rcases hj with hj | rfl
     ·exact h7 j hj
     ·exact kB
   ·have Bi:i∈rest.map (·.i):=by
      have:i∈cs.map (·.i):=List.mem_map.2 ⟨cI,Mb,Mc⟩
      rw[←h1] at this
      exact(List.mem_append.1 this).resolve_left kB
    cases rest with
    | nil=>simp at Bi
    | cons c rest=>
     have Bj:=h3 c rfl
     have dF:c.i=i:=by
      simp only[List.map_cons,List.mem_cons] at Bi
      rcases Bi with h | h
      ·exact h.symm
      ·exfalso
       obtain⟨l2,l3,hl⟩:=List.append_of_mem h
       have gN:cs.map (·.i)=tr.map (·.1)++c.i::(l2++i::l3):=by rw[←h1];simp[hl]
       have hd:=(lF F gN).2.2 Bj
       have Mi:=Fu F hI.size hI.closed ho xK c.i (F.range c (c7 c (by simp))) hd
       exact Bf h1 c.i (h7 _ Mi) (by simp)
     have kA:=c7 c (by simp)
     unfold qs at h6
     rw[rR,dF] at h6
     have kL:ops.toList[i]? =some o:=by simpa using ho
     rw[kL] at h6
     simp only at h6
     obtain⟨post,jY,hex,_⟩:=Fs ay h6
     have pl:Bb cs i tr []:=⟨fun z hz=>by
      obtain⟨a1,a2,rfl⟩:=List.append_of_mem hz
      exact⟨a1.map (·.1),a2.map (·.1),rest.map (·.i),by rw[←h1];simp[dF]⟩,fun z hz=>by simp at hz⟩
     have ag:=agree F (s0:=s0) hI.size hI.closed ho xK gJ kA dF pl (by simpa using im)
     rw[List.append_nil] at ag
     refine done (post:=post) ?_ (hex w0 keep E _ a w _ hE ag.1 ag.2)
     intro v us E' w' a' hp iZ
     obtain⟨uH,hK⟩:=jY v us hp
     have Mj:mY o=true:=by rw[dF] at Bj;simpa [kU,ho] using Bj
     have Mk:(⟨bc (bW (b5 ops) (fun _=>true) tr s0).t o.dst v,aM (bW (b5 ops) (fun _=>true) tr s0).H us⟩:St)=bW (b5 ops) (fun _=>true) (tr++[(i,v,gM (fN p o.dst) c.bE us)]) s0:=by
      rw[uD]
      simp only[bW,if_true,nX,Bh]
      rw[←sj uH (fun r e _ h=>(xF h).2)]
     rw[Mk] at hK
     have bO:kX P ops p cs s0 [] (tr++[(i,v,gM (fN p o.dst) c.bE us)]):=by
      refine xH.2 ⟨h4,?_,trivial⟩
      exact⟨c,kA,o,dF,ho,fun r hr=>by simpa using A3 uH r hr,fun hn=>by rw[Mj] at hn;cases hn⟩
     obtain⟨t2,lE,g1,g2,g3,g4,g5,g6⟩:=saturate (P:=P) ay rest _ (fun c' h'=>c7 c' (by simp[h'])) bO hK
     have gN:((tr++[(i,v,gM (fN p o.dst) c.bE us)])++t2).map (·.1)++lE.map (·.i)=cs.map (·.i):=by
      rw[←h1];simp only[List.map_append,List.map_cons,List.map_nil,List.append_assoc,g1,dF];simp
     have fL:∀z∈t2,(listed.setIfInBounds i true).getD z.1 false=false:=by
      intro z hz
      cases uJ:(listed.setIfInBounds i true).getD z.1 false with
      | false=>rfl
      | true=>
       exfalso
       rw[aI] at uJ
       simp only[Bool.or_eq_true,beq_iff_eq] at uJ
       have Ml:z.1∈(tr++[(i,v,gM (fN p o.dst) c.bE us)]).map (·.1):=by
        rcases uJ with h | h
        ·simp only[List.map_append,List.mem_append];exact .inl (h7 _ h)
        ·simp[h]
       have Mm:(tr++[(i,v,gM (fN p o.dst) c.bE us)]).map (·.1)++(t2.map (·.1)++lE.map (·.i))=cs.map (·.i):=by
        rw[←gN];simp
       exact Bf Mm z.1 Ml (by simp only[List.mem_append];exact .inl (List.mem_map.2 ⟨z,hz,rfl⟩))
     have fc:(⟨bc (bW (b5 ops) (fun j=>listed.getD j false) tr s0).t o.dst v,aM (bW (b5 ops) (fun j=>listed.getD j false) tr s0).H us⟩:St)=bW (b5 ops) (fun j=>(listed.setIfInBounds i true).getD j false) ((tr++[(i,v,gM (fN p o.dst) c.bE us)])++t2) s0:=by
      rw[uD (a:=tr++[(i,v,gM (fN p o.dst) c.bE us)]) (b:=t2),A5 (a:=t2) _ fL,uD (a:=tr) (b:=[(i,v,gM (fN p o.dst) c.bE us)])]
      have pZ:(listed.setIfInBounds i true).getD i false=true:=by rw[aI];simp
      simp only[bW,pZ,if_true,nX,Bh]
      rw[sj uH (fun r e _ h=>ag.2 r e h)]
      have Mn:bW (b5 ops) (fun j=>(listed.setIfInBounds i true).getD j false) tr s0=bW (b5 ops) (fun j=>listed.getD j false) tr s0:=by
       refine A4 _ fun z hz=> ?_
       have Mo:z.1≠i:=fun e=>kB (by rw[←e];exact List.mem_map.2 ⟨z,hz,rfl⟩)
       rw[aI];simp[Mo]
      rw[Mn]
     rw[fc] at iZ
     refine⟨by simp[hI.size],FE,_,lE,gN,g2,g3,g4,fun z hz hc=> ?_,g6,fun j hj=> ?_,E',iZ⟩
     ·rcases List.mem_append.1 hz with hz | hz
      ·rcases List.mem_append.1 hz with hz | hz
       ·rw[aI,h5 z hz hc];rfl
       ·simp only[List.mem_singleton] at hz
        subst hz
        rw[aI];simp
      ·rw[g5 z hz] at hc;cases hc
     ·rw[aI] at hj
      simp only[Bool.or_eq_true,beq_iff_eq] at hj
      simp only[List.map_append,List.mem_append]
      rcases hj with hj | rfl
      ·exact .inl (.inl (h7 j hj))
      ·exact .inl (.inr (by simp))
 refine wpIn_region_any hm (key ops.size _ _ _ ?_ ?_)
 ·obtain⟨t2,lE,g1,g2,g3,g4,g5,g6⟩:=saturate (P:=P) ay (s0:=s0) (K:=K) cs [] (fun _ h=>h) trivial h
  refine⟨by simp,?_,t2,lE,g1,g2,g3,by simpa using g4,?_,by simpa using g6,?_,E,?_⟩
  ·intro j oj mU hl
   exfalso
   have hj:=(Array.getElem?_eq_some_iff.1 mU).1
   simp[hj] at hl
  ·intro y hy de
   rw[g5 y hy] at de;cases de
  ·intro j hj
   exfalso
   by_cases h:j<ops.size<;>simp[h] at hj
  ·rw[A5 _ (fun y hy=>by by_cases h:y.1<ops.size<;>simp[h])]
   exact hR.drew
 ·exact Nat.le_trans (List.length_filter_le _ _) (by simp)
end

def aX(n:Int):Prop:= -9223372036854775808≤n∧n≤9223372036854775807
theorem FL(b:UInt8):((b.toNat:Int)≤255)=True:=by have:=UInt8.toNat_lt b;simp;omega
theorem u8_and(a b:UInt8):UInt8.ofNat (((a.toNat:Int).toNat&&&(b.toNat:Int).toNat:Nat):Int).toNat=a&&&b:=by
 simp only[Int.toNat_natCast]
 rw[←UInt8.toNat_and,UInt8.ofNat_toNat]
theorem FM(a b:UInt8):((((a.toNat:Int).toNat&&&(b.toNat:Int).toNat:Nat):Int)≤255)=True:=by
 have:=UInt8.toNat_lt (a&&&b);rw[UInt8.toNat_and] at this;simp only[Int.toNat_natCast];simp;omega
theorem FN(a b:UInt8):((((a.toNat:Int).toNat|||(b.toNat:Int).toNat:Nat):Int)≤255)=True:=by
 have:=UInt8.toNat_lt (a|||b);rw[UInt8.toNat_or] at this;simp only[Int.toNat_natCast];simp;omega
theorem FO(a b:UInt8):((((a.toNat:Int).toNat^^^(b.toNat:Int).toNat:Nat):Int)≤255)=True:=by
 have:=UInt8.toNat_lt (a^^^b);rw[UInt8.toNat_xor] at this;simp only[Int.toNat_natCast];simp;omega
theorem nn(n:Nat):(0≤(n:Int))=True:=by simp

def bZ(X:AV)(rows:List J):AV→List J→Prop:=fun x H=>∃tl,x=X∧H=rows++tl
def dL(Q:Nat→J→Prop):List J→Nat→Prop
 | [],_=>True
 | e::es,n=>Q n e∧dL Q es (n+1)
theorem ss{Q:Nat→J→Prop}:∀{l:List J}{n r:Nat}{e:J},dL Q l n→l[r]? =some e→Q (n+r) e
 | [],n,r,e,_,h=>by simp at h
 | x::l,n,0,e,hq,h=>by simp only[List.getElem?_cons_zero,Option.some.injEq] at h;subst h;exact hq.1
 | x::l,n,r+1,e,hq,h=>by
  simp only[List.getElem?_cons_succ] at h
  have:=ss hq.2 h
  rw[show n+(r+1)=n+1+r by omega];exact this
theorem FP{Q Q':Nat→J→Prop}(h:∀r e,Q r e→Q' r e):∀{l:List J}{n:Nat},dL Q l n→dL Q' l n
 | [],n,_=>trivial
 | x::l,n,hq=>⟨h _ _ hq.1,FP h hq.2⟩
def rl(sg:List Nat):Ren:=⟨fun r=>cw sg r,fun _=>0⟩
where cw:List Nat→Nat→Nat
 | [],_=>0
 | x::_,0=>x
 | _::xs,r+1=>cw xs r
theorem FQ:∀(l:List Nat)(r:Nat),rl.cw l r=l.getD r 0
 | [],r=>by simp[rl.cw]
 | x::l,0=>by simp[rl.cw]
 | x::l,r+1=>by simp[rl.cw,FQ l r]
theorem Bk{R:Ren}{rows tl:List J}:∀{rs:List Nat},(∀r,r∈rs→r<rows.length)→eu R (rows++tl) rs=eu R rows rs
 | [],_=>rfl
 | r::rs,h=>by
  have hr:=h r (by simp)
  have:c9 (rows++tl) r=c9 rows r:=by
   unfold c9
   rw[cj,cj,List.getElem?_append_left hr]
  simp only[eu,this]
  rw[Bk (fun r' h'=>h r' (by simp[h']))]
def o3:List Nat→Nat→List Nat
 | [],_=>[]
 | _::xs,n=>n::o3 xs (n+1)
theorem FT:∀(l:List Nat)(n:Nat),o3 l n=List.range' n l.length
 | [],n=>rfl
 | x::l,n=>by rw[o3,FT l (n+1)];rfl
theorem kY {P : Program} {f : FuncId} {dh : List AV} {H0 : List J} {X : AV} {rows : List J} (S : Spec P f dh H0 (bZ X rows)) (fG : ∀ (gO : Array Value) (w : World), (callFunc f gO).run P w = .ok (.enter f gO) w)
    (sg:List Nat) (hl:H0.length=sg.length) (nf:rows.length=sg.length) (dK:sg.Nodup) {args caps:List AV} {hg:Nat→Option J} (cg:args++caps=cm (rl sg) dh)
    (hon:cR (· <sg.length) dh) (hrows:dL (fun r e=>dr (· <sg.length) e.bd∧hg ((rl sg).σ r)=some ⟨e.ver,bU (rl sg) e.bd⟩) H0 0)
    (hX:cQ (· <sg.length) X) (hr2:dL (fun _ e=>dr (· <sg.length) e.bd) rows 0) {K:AV→List (Nat×J)→Prop} (hK:K (bJ (rl sg) X) (eu (rl sg) rows (o3 sg 0))):
    eZ P (.clo f caps) args hg K:=by
 rw[FT,←List.range_eq_range'] at hK
 have hm:∀r,r∈List.range sg.length↔r<sg.length:=fun r=>List.mem_range
 have e1:(fun r=>r∈List.range sg.length)=(fun r=>r<sg.length):=by funext r;exact propext (hm r)
 refine AQ (Fc S fG (rl sg) (List.range sg.length) List.nodup_range ?_ ?_ cg ?_ ?_ ?_ ?_) ?_
 ·intro r h;exact⟨(hm r).2 (by omega),rfl⟩
 ·intro a b ha hb h
  rw[hm] at ha hb
  simp only[rl,FQ] at h
  rw[List.getD_eq_getElem?_getD,List.getD_eq_getElem?_getD,List.getElem?_eq_getElem ha,List.getElem?_eq_getElem hb] at h
  simp only[Option.getD_some] at h
  have hp:=List.pairwise_iff_getElem.1 dK
  rcases Nat.lt_trichotomy a b with q | q | q
  ·exact absurd h (hp a b ha hb q)
  ·exact q
  ·exact absurd h.symm (hp b a hb ha q)
 ·rw[hl];exact hon
 ·intro r e h
  have:=ss hrows h
  rw[Nat.zero_add] at this
  rw[hl];exact⟨this.1,_,this.2,dt.refl _⟩
 ·intro r h1 h2
  rw[hm] at h1;omega
 ·rintro x H1 ⟨tl,rfl,rfl⟩
  rw[e1]
  refine⟨hX,fun r hr=> ?_⟩
  rw[hm] at hr
  have bf:r<rows.length:=by omega
  refine⟨by simp;omega,?_⟩
  have:c9 (rows++tl) r=rows[r]:=by
   unfold c9
   rw[cj,List.getElem?_append_left bf,List.getElem?_eq_getElem bf]
  rw[this]
  exact ss hr2 (List.getElem?_eq_getElem bf)
 ·rintro v us ⟨x0,H1,⟨tl,rfl,rfl⟩,rfl,rfl⟩
  rw[Bk (fun r hr=>by rw[hm] at hr;omega)]
  exact hK
theorem uM{B:(Ex→St→Prop)→St→Prop}{Q:Ex→St→Prop}{s:St}{σ:Type}(I:σ→St)(μ:σ→Nat)(x0:σ)(hT:jZ s.t (I x0).t)(hH:jw s.H (I x0).H)(h:∀x,B (AI I μ x Q) (I x)):oU B Q s:=by
 unfold oU
 exact⟨σ,I,μ,x0,r9 hT hH,h⟩
def qv:List Nat→List AV→List AV
 | [],t=>t
 | a::as,t=>qv as (aJ t a .any)
def qw:List (Nat×AV)→List AV→List AV
 | [],t=>t
 | (a,x)::l,t=>qw l (aJ t a x)
def qx(v:Nat→Nat)(p:Nat):List Nat→List J→List J
 | [],H=>H
 | a::as,H=>qx v p as (aJ H (p+a) ⟨v (p+a),.dead⟩)
def qy:List (Nat×J)→List J→List J
 | [],H=>H
 | (r,e)::l,H=>qy l (aJ H r e)
def iE{σ:Type}(p:Nat)(as:List Nat)(ts:σ→List (Nat×AV))(hs:σ→List (Nat×J))(t:List AV)(H:List J)(y:σ)(v:Nat→Nat):St:=⟨qw (ts y) (qv as t),qy (hs y) (qx v p as H)⟩
def su{σ:Type}{Inv:σ→Prop}(μ:σ→Nat)(p:Nat)(as:List Nat)(ts:σ→List (Nat×AV))(hs:σ→List (Nat×J))(t:List AV)(H:List J)(x:{y:σ×(Nat→Nat)//Inv y.1})(Q:Ex→St→Prop):Ex→St→Prop:=
 AI (fun y:{y:σ×(Nat→Nat)//Inv y.1}=>iE p as ts hs t H y.1.1 y.1.2) (fun y=>μ y.1.1) x Q
theorem cE {B : (Ex → St → Prop) → St → Prop} {Q : Ex → St → Prop} {t : List AV} {H : List J} {σ : Type} (Inv : σ → Prop) (μ : σ → Nat) (p : Nat) (as : List Nat) (ts : σ → List (Nat × AV)) (hs : σ → List (Nat × J)) (x0 : σ) (h0 : Inv x0)
    (hT:jZ t (iE p as ts hs t H x0 (fun r=>(c9 H r).ver)).t) (hH:jw H (iE p as ts hs t H x0 (fun r=>(c9 H r).ver)).H)
    (h:∀(x:σ)(v:Nat→Nat)(hx:Inv x),B (su μ p as ts hs t H ⟨(x,v),hx⟩ Q) (iE p as ts hs t H x v)):oU B Q ⟨t,H⟩:=
 uM (fun y:{y:σ×(Nat→Nat)//Inv y.1}=>iE p as ts hs t H y.1.1 y.1.2) (fun y=>μ y.1.1) ⟨(x0,fun r=>(c9 H r).ver),h0⟩ hT hH fun⟨(x,v),hx⟩=>h x v hx
theorem nZ {σ : Type} {Inv : σ → Prop} {μ : σ → Nat} {p : Nat} {as : List Nat} {ts : σ → List (Nat × AV)} {hs : σ → List (Nat × J)} {t : List AV} {H : List J} {x : {y : σ × (Nat → Nat) // Inv y.1}} {Q : Ex → St → Prop} {s : St} (y : σ) (hI : Inv y) (Bl : μ y < μ x.1.1)
    (hT:jZ s.t (iE p as ts hs t H y (fun r=>(c9 s.H r).ver)).t) (hH:jw s.H (iE p as ts hs t H y (fun r=>(c9 s.H r).ver)).H):su μ p as ts hs t H x Q .normal s:=⟨⟨(y,fun r=>(c9 s.H r).ver),hI⟩,r9 hT hH,Bl⟩

def db(sg dl:List Nat):Ren:=⟨fun r=>rl.cw sg r,fun r=>rl.cw dl r⟩
theorem FU{R:Ren}{H:List J}:∀(a b:List Nat),eu R H (a++b)=eu R H a++eu R H b
 | [],b=>rfl
 | x::a,b=>by simp only[List.cons_append,eu,FU a b]
def ng:List J→Nat→List Nat
 | [],_=>[]
 | _::xs,n=>n::ng xs (n+1)
theorem FV:∀(l:List J)(n:Nat),ng l n=List.range' n l.length
 | [],n=>rfl
 | x::l,n=>by rw[ng,FV l (n+1)];rfl

section
variable {P:Program}
def jz(r v':Nat):List AV→List AV→Prop
 | [],[]=>True
 | x::xs,y::ys=>(y= .any∨x=y∨(∃sz,x= .val (.slice none 0 0)∧y= .own r v' sz 0 0))∧jz r v' xs ys
 | _,_=>False
theorem Bm{r v':Nat}:∀{xs ys:List AV},jz r v' xs ys→xs.length=ys.length∧∀(i:Nat) y,ys[i]? =some y→y= .any∨∃x,xs[i]? =some x∧(x=y∨(∃sz,x= .val (.slice none 0 0)∧y= .own r v' sz 0 0))
 | [],[],_=>⟨rfl,by simp⟩
 | [],_::_,h=>h.elim
 | _::_,[],h=>h.elim
 | x::xs,y::ys,h=>by
  obtain⟨h1,h2⟩:=Bm h.2
  refine⟨by simp[h1],fun i z hz=> ?_⟩
  cases i with
  | zero=>
   simp at hz;subst hz
   rcases h.1 with h | h | h
   ·exact .inl h
   ·exact .inr ⟨x,rfl,.inl h⟩
   ·exact .inr ⟨x,rfl,.inr h⟩
  | succ i=>simpa using h2 i z (by simpa using hz)
theorem lH{s:St}{t':List AV}(r v':Nat)(bd':Bd){e:J}(hr:bb s.H r=some e)(hv:e.ver<v')(hc:bd'.count=0)(ht:jz r v' s.t t'):iD s ⟨t',aJ s.H r ⟨v',bd'⟩⟩:=by
 intro w0 keep E a w hR
 rw[cj] at hr
 obtain⟨h1,h2⟩:=Bm ht
 have gP:=(List.getElem?_eq_some_iff.1 hr).1
 have gu:=hR.hr.ver r e hr
 obtain⟨E',aN⟩:∃E':Env,E'={E with ver:=fun k=>if k=r then v' else E.ver k,abs:=fun k=>if k=r then True else E.abs k}:=⟨_,rfl⟩
 have ev:E'.ver r=v':=by subst aN;simp
 have ja:∀k,k≠r→E'.ver k=E.ver k:=by intro k hk;subst aN;simp[hk]
 have ea:E'.abs r:=by subst aN;simp
 have gQ:∀k,k≠r→(E'.abs k↔E.abs k):=by intro k hk;subst aN;simp[hk]
 have er:∀k,E'.ρ k=E.ρ k:=by intro k;subst aN;rfl
 have ez:∀z b,E'.aC z b↔E.aC z b:=by intro z b;subst aN;exact Iff.rfl
 have X:Ext E E' w w:=by
  refine⟨fun k=> ?_,fun k _=>er k,fun k hk=> ?_,fun z b h=>(ez z b).2 h,fun _ _ _=>rfl,fun k cur T fz h=>⟨cur,T,fz,h,Nat.le_refl _⟩,fun _ _ _ _ h=>by subst aN;exact h⟩
  ·by_cases q:k=r
   ·subst q;omega
   ·rw[ja k q];exact Nat.le_refl _
  ·by_cases q:k=r
   ·subst q;omega
   ·exact gQ k q
 have aI:∀(k:Nat)(e':J),(aJ s.H r ⟨v',bd'⟩)[k]? =some e'→k=r∧e'=⟨v',bd'⟩∨k≠r∧s.H[k]? =some e':=by
  intro k e' h
  rw[bK,List.getElem?_set] at h
  by_cases q:r=k
  ·subst q
   rw[if_pos rfl,if_pos gP] at h
   exact .inl ⟨rfl,(Option.some.inj h).symm⟩
  ·rw[if_neg q] at h
   exact .inr ⟨fun h=>q h.symm,h⟩
 have b9:∀(k:Nat)(e':J),(aJ s.H r ⟨v',bd'⟩)[k]? =some e'→bN E' k e'→k≠r∧s.H[k]? =some e'∧bN E k e':=by
  intro k e' h hl
  rcases aI k e' h with⟨rfl,rfl⟩ | ⟨q1,q2⟩
  ·exact absurd ea hl.2
  ·exact⟨q1,q2,hl.1,fun q=>hl.2 ((gQ k q1).2 q)⟩
 have hblk:∀(k:Nat)(e':J)(b:Nat),(aJ s.H r ⟨v',bd'⟩)[k]? =some e'→aB E' k e' b→k≠r∧s.H[k]? =some e'∧aB E k e' b:=by
  intro k e' b h hb
  rcases hb with⟨hl,h3⟩ | ⟨h3,h4⟩
  ·obtain⟨q1,q2,q3⟩:=b9 k e' h hl
   exact⟨q1,q2,.inl ⟨q3,by rwa [er] at h3⟩⟩
  ·rcases aI k e' h with⟨rfl,rfl⟩ | ⟨q1,q2⟩
   ·exfalso;cases bd'<;>first | (simp[Bd.count] at hc;done) | (simp[Bd.gY] at h3;done)
   ·exact⟨q1,q2,.inr ⟨h3,by subst aN;exact h4⟩⟩
 refine⟨E',⟨by rw[←h1];exact hR.len,fun i y hy=> ?_,⟨hR.defers.1,hR.defers.2.ext X⟩,⟨?_,?_,?_,?_,?_,?_,?_,hR.hr.gl.ext X,?_⟩,⟨hR.fr.os,hR.fr.tape,hR.fr.output,hR.fr.size,hR.fr.block,hR.fr.grow,?_⟩,hR.ext.trans X,fun z b h=>hR.aC z b ((ez z b).1 h),?_⟩⟩
 ·rcases h2 i y hy with rfl | ⟨x,hx,rfl | ⟨sz,rfl,rfl⟩⟩
  ·simp only[ae]
  ·exact fD X _ _ (hR.tmps i _ hx)
  ·have:=bq (hR.tmps i _ hx)
   rw[this,ae]
   exact⟨by omega,fun _=>⟨none,0,rfl,Nat.le_refl _,Nat.zero_le _,fun _=>rfl,.inl rfl⟩⟩
 ·intro k e' h
  rcases aI k e' h with⟨rfl,rfl⟩ | ⟨q1,q2⟩
  ·exact ev
  ·rw[ja k q1];exact hR.hr.ver k e' q2
 ·intro k e' h hl
  obtain⟨q1,q2,q3⟩:=b9 k e' h hl
  rw[er];exact(hR.hr.bS k e' q2 q3).ext X rfl
 ·intro k e' h ha
  rcases aI k e' h with⟨rfl,rfl⟩ | ⟨q1,q2⟩
  ·exact hc
  ·exact hR.hr.abs k e' q2 ((gQ k q1).1 ha)
 ·intro k k' e1 e2 b h h' hl bA
  obtain⟨q1,q2,q3⟩:=hblk k e1 b h hl
  obtain⟨q4,q5,q6⟩:=hblk k' e2 b h' bA
  exact hR.hr.inj k k' e1 e2 b q2 q5 q3 q6
 ·exact fun z b h=>hR.hr.cX z b ((ez z b).1 h)
 ·intro k e' b h hl z hz
  obtain⟨q1,q2,q3⟩:=hblk k e' b h hl
  exact hR.hr.dC k e' b q2 q3 z ((ez z _).1 hz)
 ·intro k hk
  rw[bK,List.length_set] at hk
  have aG:k≠r:=by omega
  rw[ja k aG,gQ k aG]
  exact hR.hr.top k hk
 ·intro k v ls h
  rcases aI k _ h with⟨rfl,h1⟩ | ⟨q1,q2⟩
  ·cases h1;simp[Bd.count] at hc
  ·have:=hR.hr.az k v ls q2
   subst aN;exact this
 ·intro k e' b h hl ah
  obtain⟨q1,q2,q3⟩:=hblk k e' b h hl
  exact hR.fr.rows k e' b q2 q3 ah
 ·intro k e' b h hl
  obtain⟨q1,q2,q3⟩:=hblk k e' b h hl
  exact hR.rows k e' b q2 q3
theorem jb(s:St):iD s s:=fun _ _ E _ _ h=>⟨E,h⟩
theorem Mp{s:St}{H':List J}(hlen:H'.length=s.H.length)(hw:∀(k:Nat)(e:J),H'[k]? =some e→∃e0:J,s.H[k]? =some e0∧dt e0 e):iD s ⟨s.t,H'⟩:=by
 intro w0 keep E a w hR
 have uN:∀(k:Nat)(e:J),H'[k]? =some e→bN E k e→∃e0:J,s.H[k]? =some e0∧dt e0 e∧bN E k e0:=fun k e h hl=>by
  obtain⟨e0,h1,h2⟩:=hw k e h
  exact⟨e0,h1,h2,h2.2.1 hl.1,hl.2⟩
 refine⟨E,⟨hR.len,hR.tmps,hR.defers,⟨fun k e h=> ?_,fun k e h hl=> ?_,fun k e h ha=> ?_,fun k k' e e' b h h' hl bA=> ?_,hR.hr.cX,fun k e b h hl=> ?_,fun k hk=>hR.hr.top k (by rw[hlen] at hk;exact hk),hR.hr.gl,fun k v ls h=> ?_⟩,⟨hR.fr.os,hR.fr.tape,hR.fr.output,hR.fr.size,hR.fr.block,hR.fr.grow,fun k e b h hl=> ?_⟩,hR.ext,hR.aC,fun k e b h hl=> ?_⟩⟩
 ·obtain⟨e0,h1,h2⟩:=hw k e h
  rw[hR.hr.ver k e0 h1,h2.1]
 ·obtain⟨e0,h1,h2,h3⟩:=uN k e h hl
  exact h2.2.2.2.1 hl.1 E w _ (hR.hr.bS k e0 h1 h3)
 ·obtain⟨e0,h1,h2⟩:=hw k e h
  exact h2.2.2.1 (hR.hr.abs k e0 h1 ha)
 ·obtain⟨e0,h1,h3⟩:=hw k e h
  obtain⟨e1,g1,g3⟩:=hw k' e' h'
  exact hR.hr.inj k k' e0 e1 b h1 g1 (h3.aQ hl) (g3.aQ bA)
 ·obtain⟨e0,h1,h3⟩:=hw k e h
  exact hR.hr.dC k e0 b h1 (h3.aQ hl)
 ·obtain⟨e0,h1,h3⟩:=hw k _ h
  exact hR.hr.az k e0.ver ls (by rw[h1,←h3.2.2.2.2 ls rfl])
 ·obtain⟨e0,h1,h3⟩:=hw k e h
  exact hR.fr.rows k e0 b h1 (h3.aQ hl)
 ·obtain⟨e0,h1,h3⟩:=hw k e h
  exact hR.rows k e0 b h1 (h3.aQ hl)
theorem Bn{s:St}(r:Nat){e0:J}(e:J)(hr:bb s.H r=some e0)(hw:dt e0 e):iD s ⟨s.t,aJ s.H r e⟩:=by
 rw[cj] at hr
 refine Mp (by rw[bK,List.length_set]) fun k x hx=> ?_
 rw[bK,List.getElem?_set] at hx
 by_cases q:r=k
 ·subst q
  rw[if_pos rfl,if_pos (List.getElem?_eq_some_iff.1 hr).1] at hx
  obtain rfl:=Option.some.inj hx
  exact⟨e0,hr,hw⟩
 ·rw[if_neg q] at hx
  exact⟨x,hx,dt.refl x⟩
theorem xN{a b c:St}(h:iD a b)(k:iD b c):iD a c:=fun w0 keep E a w hR=>by
 obtain⟨E1,h1⟩:=h w0 keep E a w hR
 exact k w0 keep E1 a w h1
def Mq(tb:TypeId→Option TI)(rs:List ResultVar)(post:AV→List J→Prop)(e:Ex)(s:St):Prop:=∃s',iD s s'∧uo tb rs post e s'
theorem nh {tb : TypeId → Option TI} (ay : cD P tb) {f : FuncId} {fn : Func} {c : Code} {n : Nat} {rs : List ResultVar} (hf : P.funcs[f]? = some fn) (hb : fn.body = some c) (hn : fn.ntmps = n) (ma : fn.results = rs.toArray)
    {args:List AV} {H0:List J} {post:AV→List J→Prop} (h:gm tb P H0.length c (Mq tb rs fun x H=>H0.length≤H.length∧post x H) ⟨args++dg (n - args.length),H0++cL n⟩) (uq:fa c=true:=by kernel_rfl):Spec P f args H0 post:=by
 intro w E cargs hr cg
 refine calls_of_wp hf hb (wp_mono (AK (keep:=oV E H0 True) ay h (fun _=>uq) (xp hn hr cg n True)) ?_)
 rintro e a w' ⟨ex,s0,E0,rfl,qi,s,hle,hQ⟩
 obtain⟨E',hR⟩:=hle _ _ _ _ _ qi
 obtain⟨hex,v,x,h1,h2,h3⟩:=xo ay ma hQ hR
 have hx:Ext E E' w w':=hR.ext
 rcases hex with rfl | rfl
 ·exact⟨hR.defers.1 trivial,v,h1,v,x,s.H,E',rfl,h3.2,h2,hR.hr,hx,hR.aC,h3.1,hR.rows,hR.fr⟩
 ·exact⟨hR.defers.1 trivial,v,h1,v,x,s.H,E',rfl,h3.2,h2,hR.hr,hx,hR.aC,h3.1,hR.rows,hR.fr⟩
def allM(H:List J):List (Nat×J)→Prop
 | []=>True
 | (q,e)::ms=>bb H q=some e∧allM H ms
def ak(X:AV)(rows:List J)(mk:List (Nat×J)):AV→List J→Prop:=fun x H=>∃tl,x=X∧H=rows++tl∧allM H mk
def j9(p:Nat)(ids:List Nat)(r:Nat):Bool:=Nat.blt r p||ids.contains r
def cn:List (Nat×J)→List Nat
 | []=>[]
 | (q,_)::ms=>q::cn ms
def iF(hg:Nat→Option J)(sg dl:List Nat):List (Nat×J)→Prop
 | []=>True
 | (q,_)::ms=>(∃e,hg (rl.cw sg q)=some e∧e.ver<rl.cw dl q)∧iF hg sg dl ms
def iG(D:Nat→Prop):List (Nat×J)→Prop
 | []=>True
 | (_,e)::ms=>dr D e.bd∧iG D ms
def nk(sg dl:List Nat):List (Nat×J)→List (Nat×J)
 | []=>[]
 | (q,e)::ms=>(rl.cw sg q,⟨e.ver+rl.cw dl q,bU (db sg dl) e.bd⟩)::nk sg dl ms
theorem xO{H:List J}:∀{ms:List (Nat×J)},allM H ms→∀q,q∈cn ms→∃e,(q,e)∈ms∧bb H q=some e
 | (q',e)::ms,h,q,hq=>by
  simp only[cn,List.mem_cons] at hq
  rcases hq with rfl | hq
  ·exact⟨e,by simp,h.1⟩
  ·obtain⟨e',h1,h2⟩:=xO h.2 q hq
   exact⟨e',by simp[h1],h2⟩
theorem FW{hg:Nat→Option J}{sg dl:List Nat}:∀{ms:List (Nat×J)},iF hg sg dl ms→∀q,q∈cn ms→∃e,hg (rl.cw sg q)=some e∧e.ver<rl.cw dl q
 | (q',e)::ms,h,q,hq=>by
  simp only[cn,List.mem_cons] at hq
  rcases hq with rfl | hq
  ·exact h.1
  ·exact FW h.2 q hq
theorem FX{D:Nat→Prop}:∀{ms:List (Nat×J)},iG D ms→∀q e,(q,e)∈ms→dr D e.bd
 | (q',e')::ms,h,q,e,hq=>by
  simp only[List.mem_cons,Prod.mk.injEq] at hq
  rcases hq with⟨rfl,rfl⟩ | hq
  ·exact h.1
  ·exact FX h.2 q e hq
theorem FY{sg dl:List Nat}{H:List J}:∀{ms:List (Nat×J)},allM H ms→eu (db sg dl) H (cn ms)=nk sg dl ms
 | [],_=>rfl
 | (q,e)::ms,h=>by
  have:c9 H q=e:=by unfold c9;rw[h.1]
  simp only[cn,eu,nk,this,FY h.2]
  rfl
theorem FZ {f : FuncId} {dh : List AV} {H0 : List J} {X : AV} {rows : List J} {mk : List (Nat × J)} (S : Spec P f dh H0 (ak X rows mk)) (fG : ∀ (gO : Array Value) (w : World), (callFunc f gO).run P w = .ok (.enter f gO) w)
    (p:Nat) (sg dl ids:List Nat) (im:cn mk=ids) (hl:H0.length=p) (nf:rows.length=p) (dK:(List.range p++ids).Nodup) (hz:∀r,r<p→rl.cw dl r=0)
    (ky:((List.range p++ids).map (rl.cw sg)).Nodup) {args caps:List AV} {hg:Nat→Option J} (cg:args++caps=cm (db sg dl) dh)
    (hon:cR (· <p) dh) (hrows:dL (fun r e=>dr (· <p) e.bd∧∃e',hg (rl.cw sg r)=some e'∧dt e' ⟨e.ver,bU (db sg dl) e.bd⟩) H0 0) (had:iF hg sg dl mk)
    (hX:cQ (fun r=>j9 p ids r=true) X) (hr2:dL (fun _ e=>dr (fun r=>j9 p ids r=true) e.bd) rows 0) (he:iG (fun r=>j9 p ids r=true) mk) {K:AV→List (Nat×J)→Prop}
    (hK:K (bJ (db sg dl) X) (eu (db sg dl) rows (ng rows 0)++nk sg dl mk)):
    eZ P (.clo f caps) args hg K:=by
 subst im
 have hm:∀r,r∈List.range p++cn mk↔j9 p (cn mk) r=true:=fun r=>by
  simp only[List.mem_append,List.mem_range,j9,Bool.or_eq_true,List.contains_iff_mem]
  rw[show(Nat.blt r p=true)=(r<p) from by simp[Nat.blt];rfl]
 have e1:(fun r=>r∈List.range p++cn mk)=(fun r=>j9 p (cn mk) r=true):=by funext r;exact propext (hm r)
 have c7:∀r,r∈List.range p++cn mk→r<p∨r∈cn mk:=fun r h=>by simpa using h
 refine AQ (Fc S fG (db sg dl) (List.range p++cn mk) dK ?_ ?_ cg ?_ ?_ ?_ ?_) ?_
 ·intro r h;exact⟨by simp;omega,hz r (by omega)⟩
 ·intro a b ha hb h
  obtain⟨i,hi,rfl⟩:=List.getElem_of_mem ha
  obtain⟨j,hj,rfl⟩:=List.getElem_of_mem hb
  have hp:=List.pairwise_iff_getElem.1 ky
  rcases Nat.lt_trichotomy i j with q | q | q
  ·have:=hp i j (by simpa using hi) (by simpa using hj) q
   rw[List.getElem_map,List.getElem_map] at this
   exact absurd h this
  ·subst q;rfl
  ·have:=hp j i (by simpa using hj) (by simpa using hi) q
   rw[List.getElem_map,List.getElem_map] at this
   exact absurd h.symm this
 ·rw[hl];exact hon
 ·intro r e h
  have:=ss hrows h
  rw[Nat.zero_add] at this
  rw[hl];exact this
 ·intro r h1 h2
  rcases c7 r h1 with h | h
  ·omega
  ·exact FW had r h
 ·rintro x H1 ⟨tl,rfl,rfl,Bo⟩
  rw[e1]
  refine⟨hX,fun r hr=> ?_⟩
  rcases c7 r hr with h | h
  ·have bf:r<rows.length:=by omega
   refine⟨by simp;omega,?_⟩
   have:c9 (rows++tl) r=rows[r]:=by
    unfold c9
    rw[cj,List.getElem?_append_left bf,List.getElem?_eq_getElem bf]
   rw[this]
   exact ss hr2 (List.getElem?_eq_getElem bf)
  ·obtain⟨e,h1,h2⟩:=xO Bo r h
   refine⟨?_,?_⟩
   ·rw[cj] at h2;exact(List.getElem?_eq_some_iff.1 h2).1
   ·have:c9 (rows++tl) r=e:=by unfold c9;rw[h2]
    rw[this];exact FX he r e h1
 ·rintro v us ⟨x0,H1,⟨tl,rfl,rfl,Bo⟩,rfl,rfl⟩
  rw[FU,Bk (fun r hr=>by rw[List.mem_range] at hr;omega),FY Bo]
  rw[FV,nf,←List.range_eq_range'] at hK
  exact hK
theorem Mr {f : FuncId} {dh : List AV} {H0 : List J} {X : AV} {rows : List J} {mk : List (Nat × J)} (S : Spec P f dh H0 (ak X rows mk)) (fG : ∀ (gO : Array Value) (w : World), (callFunc f gO).run P w = .ok (.enter f gO) w)
    (p:Nat) (sg dl ids:List Nat) (im:cn mk=ids) (hl:H0.length=p) (nf:rows.length=p) (dK:(List.range p++ids).Nodup) (hz:∀r,r<p→rl.cw dl r=0)
    (ky:((List.range p++ids).map (rl.cw sg)).Nodup) {args caps:List AV} {hg:Nat→Option J} (cg:args++caps=cm (db sg dl) dh)
    (hon:cR (· <p) dh) (hrows:dL (fun r e=>dr (· <p) e.bd∧hg (rl.cw sg r)=some ⟨e.ver,bU (db sg dl) e.bd⟩) H0 0) (had:iF hg sg dl mk)
    (hX:cQ (fun r=>j9 p ids r=true) X) (hr2:dL (fun _ e=>dr (fun r=>j9 p ids r=true) e.bd) rows 0) (he:iG (fun r=>j9 p ids r=true) mk) {K:AV→List (Nat×J)→Prop}
    (hK:K (bJ (db sg dl) X) (eu (db sg dl) rows (ng rows 0)++nk sg dl mk)):
    eZ P (.clo f caps) args hg K:=
 FZ S fG p sg dl ids im hl nf dK hz ky cg hon (FP (fun r e h=>⟨h.1,_,h.2,dt.refl _⟩) hrows) had hX hr2 he hK
end

mutual
def n0:AV→Prop
 | .any=>True
 | .val v=>True
 | .agg l=>nl l
 | .aD l=>nl l
 | .bs z l=>False
 | .sl z sz f d l=>False
 | .own r ver sz off n=>True
 | .ref r ver sz i j=>True
 | .cp z cells j=>False
 | .clo f caps=>nl caps
 | .gG r ver=>True
 | .pl r ver i off n=>True
 | .iQ r ver i k=>True
 | .gd φ x=>n0 x
def nl:List AV→Prop
 | []=>True
 | x::xs=>n0 x∧nl xs
end
def mh:Bd→Prop
 | .dead=>True
 | .bytes l=>True
 | .row sz f d l=>∀a,nl (f a)
 | .obj l=>nl l
 | .lp .. =>False
 | .az _=>True
structure qz(R:Ren)(E Ec:Env):Prop where
 ver:∀r,Ec.ver (R.σ r)=E.ver r+R.δ r
 dM:∀r,Ec.ρ (R.σ r)=E.ρ r
 abs:∀r,(Ec.abs (R.σ r)↔E.abs r)
 pl:∀r,Ec.pl (R.σ r)=E.pl r
theorem qz.aQ{R:Ren}{E Ec:Env}(C:qz R E Ec)(r:Nat)(e:J)(v b:Nat):aB E r e b↔aB Ec (R.σ r) ⟨v,bU R e.bd⟩ b:=by
 unfold aB bN
 simp only[(j5 (R:=R) (b:=e.bd)).2.2,E7,C.dM r,C.abs r,C.pl r]
mutual
theorem xP{R:Ren}{E Ec:Env}{w:World}(C:qz R E Ec):∀(x:AV)(v:Value),n0 x→ae E w x v→ae Ec w (bJ R x) v
 | .any,v,_,h=>by simp only[bJ,ae]
 | .val u,v,_,h=>by simp only[bJ,ae] at h⊢;exact h
 | .agg l,v,hz,h=>by
  simp only[bJ,ae] at h⊢
  obtain⟨cs,rfl,h⟩:=h
  exact⟨cs,rfl,uO C l cs hz h⟩
 | .aD l,v,hz,h=>by
  simp only[bJ,ae] at h⊢
  obtain⟨cs,rfl,h⟩:=h
  exact⟨cs,rfl,uO C l cs hz h⟩
 | .bs z l,v,hz,_=>hz.elim
 | .sl z sz f d l,v,hz,_=>hz.elim
 | .own r ver sz off n,v,hz,h=>by
  simp only[bJ,ae,C.ver,C.dM,C.abs] at h⊢
  exact⟨by omega,fun e=>h.2 (by omega)⟩
 | .ref r ver sz i j,v,hz,h=>by
  simp only[bJ,ae,C.ver,C.dM] at h⊢
  exact⟨by omega,fun e=>h.2 (by omega)⟩
 | .cp z cells j,v,hz,_=>hz.elim
 | .clo f caps,v,hz,h=>by
  simp only[bJ,ae] at h⊢
  obtain⟨cs,rfl,h⟩:=h
  exact⟨cs,rfl,uO C caps cs hz h⟩
 | .gG r ver,v,hz,h=>by
  simp only[bJ,ae,C.ver,C.dM] at h⊢
  exact⟨by omega,fun e=>h.2 (by omega)⟩
 | .pl r ver i off n,v,hz,h=>by
  simp only[bJ,ae,C.ver,C.pl] at h⊢
  exact⟨by omega,fun e=>h.2 (by omega)⟩
 | .iQ r ver i k,v,hz,h=>by
  simp only[bJ,ae,C.ver,C.pl] at h⊢
  exact⟨by omega,fun e=>h.2 (by omega)⟩
 | .gd φ x,v,hz,h=>by
  simp only[bJ,ae] at h⊢
  exact⟨fun p=>xP C x v hz (h.1 p),h.2⟩
theorem uO{R:Ren}{E Ec:Env}{w:World}(C:qz R E Ec):∀(xs:List AV)(vs:List Value),nl xs→aq E w xs vs→aq Ec w (cm R xs) vs
 | [],vs,_,h=>by simp only[cm,aq] at h⊢;exact h
 | x::xs,vs,hz,h=>by
  simp only[cm,aq] at h⊢
  obtain⟨v,dm,rfl,h1,h2⟩:=h
  exact⟨v,dm,rfl,xP C x v hz.1 h1,uO C xs dm hz.2 h2⟩
end
theorem F0{bd:Bd}(h:mh bd){i:Nat}{ys:List AV}(hy:bd.at i=some ys):nl ys:=by
 cases bd with
 | dead=>simp[Bd.at] at hy
 | bytes l=>
  simp only[Bd.at,Option.map_eq_some_iff] at hy
  obtain⟨b,_,rfl⟩:=hy
  simp[nl,n0]
 | row sz f d l=>
  simp only[Bd.at,Option.map_eq_some_iff] at hy
  obtain⟨b,_,rfl⟩:=hy
  exact h b
 | obj l=>
  simp only[Bd.at] at hy
  split at hy
  ·cases hy;exact h
  ·cases hy
 | lp=>simp[Bd.at] at hy
 | az=>simp[Bd.at] at hy
theorem fm.F3{R:Ren}{E Ec:Env}{w:World}(C:qz R E Ec){b:Nat}{bd:Bd}(hz:mh bd)(h:fm E w b bd):fm Ec w b (bU R bd):=by
 obtain⟨e1,e2,e3⟩:=j5 (R:=R) (b:=bd)
 refine⟨fun hl=> ?_,fun i tR st e=>by cases bd<;>first | exact(show False from hz).elim | cases e⟩
 obtain⟨cur,T,lo,hi,h1,h2,h3,h4⟩:=h.aQ (by rwa [AO] at hl)
 refine⟨cur,T,lo,hi,h1,h2,by rw[e1,e2];exact h3,fun i ys hy=> ?_⟩
 rw[AN] at hy
 obtain⟨fE,iA,rfl⟩:=Option.map_eq_some_iff.1 hy
 obtain⟨cs,h5,h6,h7⟩:=h4 i fE iA
 rw[e1]
 exact⟨cs,h5,uO C _ _ (F0 hz iA) h6,h7⟩
def np(n:Nat):Ren:=⟨fun r=>r+n,fun _=>0⟩
def uP(n:Nat):List (Nat×J)→List (Nat×J)
 | []=>[]
 | (q,e)::ms=>(q+n,⟨e.ver,bU (np n) e.bd⟩)::uP n ms
def uQ:List (Nat×J)→Prop
 | []=>True
 | (_,e)::ms=>mh e.bd∧uQ ms
theorem Bp:∀{ms:List (Nat×J)},uQ ms→∀q e,(q,e)∈ms→mh e.bd
 | (q',e')::ms,h,q,e,hq=>by
  simp only[List.mem_cons,Prod.mk.injEq] at hq
  rcases hq with⟨rfl,rfl⟩ | hq
  ·exact h.1
  ·exact Bp h.2 q e hq
def mj(n:Nat)(ids:List Nat)(q:Nat)(e:J):J:=if q∈ids then⟨e.ver,bU (np n) e.bd⟩ else⟨e.ver,.dead⟩
section
variable {P:Program}
theorem kC {f : FuncId} {dh : List AV} {X : AV} {mk : List (Nat × J)} (S : Spec P f dh [] (ak X [] mk)) (hX : n0 X) (jc : uQ mk) {args : List AV} {rows : List J}
    (cg:∀(E E0:Env)(w:World)(vs:List Value),HR E w rows→(∀z b,E0.aC z b↔z=0∧b<w.heap.size)→aq E w args vs→aq E0 w dh vs):
    Spec P f args rows (ak (bJ (np rows.length) X) rows (uP rows.length mk)):=by
 intro w E cargs hr uu
 obtain⟨n,hn⟩:∃n,n=rows.length:=⟨_,rfl⟩
 rw[←hn]
 obtain⟨E0,il⟩:∃E0:Env,E0={ρ:=fun r=>E.ρ (r+n),ver:=fun _=>0,aC:=fun z b=>z=0∧b<w.heap.size,abs:=fun _=>False,pl:=fun r=>E.pl (r+n)}:=⟨_,rfl⟩
 have jW:∀z b,E0.aC z b↔z=0∧b<w.heap.size:=by subst il;exact fun _ _=>Iff.rfl
 have j6:HR E0 w []:=by
  refine⟨by simp,by simp,by simp,by simp,fun z b h=>((jW z b).1 h).2,by simp,fun r _=> ?_,fun g cs hg=>⟨(jW 0 g).2 ⟨rfl,hr.cX 0 g (hr.gl g cs hg).1⟩,(hr.gl g cs hg).2⟩,by simp⟩
  subst il;exact⟨rfl,fun h=>h⟩
 refine Calls.mono (S w E0 cargs j6 (cg E E0 w cargs hr jW uu)) fun e w'⟨v,x,H1,E1,he,lC,hv,cd,X1,mc,sd,me,cM⟩=> ?_
 obtain⟨tl,ka,nR,jA⟩:=lC
 rw[List.nil_append] at nR
 have fF:∀k,k<w.heap.size→w'.heap[k]? =w.heap[k]?:=fun k hk=>X1.cell 0 k ((jW 0 k).2 ⟨rfl,hk⟩)
 have w7:=cM.size
 have fL:∀(r:Nat)(e:J)(b:Nat),H1[r]? =some e→aB E1 r e b→w.heap.size≤b:=by
  intro r e b h1 h2
  rcases me r e b h1 h2 with h | ⟨r0,e0,h,_⟩
  ·exact h
  ·simp at h
 have lI:=hr.top
 obtain⟨E',aN⟩:∃E':Env,E'={ρ:=fun k=>if k<n then E.ρ k else E1.ρ (k - n),ver:=fun k=>if k<n then E.ver k else E1.ver (k - n),aC:=E.aC,abs:=fun k=>if k<n then E.abs k else E1.abs (k - n),pl:=fun k=>if k<n then E.pl k else E1.pl (k - n)}:=⟨_,rfl⟩
 have lo:∀k,k<n→E'.ρ k=E.ρ k∧E'.ver k=E.ver k∧(E'.abs k↔E.abs k):=by intro k hk;subst aN;simp[hk]
 have hi:∀k,E'.ρ (k+n)=E1.ρ k∧E'.ver (k+n)=E1.ver k∧(E'.abs (k+n)↔E1.abs k):=by
  intro k;subst aN
  have:¬k+n<n:=by omega
  simp[this]
 have qA:∀k,k<n→E'.pl k=E.pl k:=by intro k hk;subst aN;simp[hk]
 have qB:∀k,E'.pl (k+n)=E1.pl k:=by
  intro k;subst aN
  have:¬k+n<n:=by omega
  simp[this]
 have bP:∀k,¬k<n→∃q,k=q+n:=fun k hk=>⟨k - n,by omega⟩
 have ez:∀z b,E'.aC z b↔E.aC z b:=by intro z b;subst aN;exact Iff.rfl
 have C:qz (np n) E1 E':=⟨fun r=>(hi r).2.1,fun r=>(hi r).1,fun r=>(hi r).2.2,fun r=>qB r⟩
 have X:Ext E E' w w':=by
  refine⟨fun k=> ?_,fun k hk=> ?_,fun k hk=> ?_,fun z b h=>(ez z b).2 h,fun z b h=>fF b (hr.cX z b h),fun k cur T fz h=> ?_,fun k hk i b hb=> ?_⟩
  ·by_cases q:k<n
   ·rw[(lo k q).2.1];exact Nat.le_refl _
   ·rw[(lI k (by omega)).1];exact Nat.zero_le _
  ·by_cases q:k<n
   ·exact(lo k q).1
   ·obtain⟨m,rfl⟩:=bP k q
    rw[(hi m).2.1,(lI (m+n) (by omega)).1] at hk
    have:=X1.dM m (by rw[hk];subst il;rfl)
    rw[(hi m).1,this];subst il;rfl
  ·by_cases q:k<n
   ·exact(lo k q).2.2
   ·obtain⟨m,rfl⟩:=bP k q
    rw[(hi m).2.1,(lI (m+n) (by omega)).1] at hk
    have:=X1.abs m (by rw[hk];subst il;rfl)
    rw[(hi m).2.2,this]
    have h2:=(lI (m+n) (by omega)).2
    subst il
    exact⟨fun h=>h.elim,fun h=>(h2 h).elim⟩
  ·have ah:=(Array.getElem?_eq_some_iff.1 h).1
   exact⟨cur,T,fz,by rw[fF _ ah];exact h,Nat.le_refl _⟩
  ·by_cases q:k<n
   ·rw[qA k q];exact hb
   ·obtain⟨m,rfl⟩:=bP k q
    rw[(hi m).2.1,(lI (m+n) (by omega)).1] at hk
    rw[qB]
    exact X1.pl m (by rw[hk];subst il;rfl) i b (by subst il;exact hb)
 obtain⟨H',dN⟩:∃H':List J,H'=rows++(H1.mapIdx fun q e=>mj n (cn mk) q e):=⟨_,rfl⟩
 have get:∀(k:Nat)(e:J),H'[k]? =some e→(k<n∧rows[k]? =some e)∨(∃q e1,k=q+n∧H1[q]? =some e1∧e=mj n (cn mk) q e1):=by
  intro k e h
  rw[dN,List.getElem?_append] at h
  split at h
  ·rename_i q;exact .inl ⟨by omega,h⟩
  ·rename_i q
   rw[List.getElem?_mapIdx,Option.map_eq_some_iff] at h
   obtain⟨e1,h1,h2⟩:=h
   exact .inr ⟨k - rows.length,e1,by omega,h1,h2.symm⟩
 have told:∀{q:Nat}{e1:J},H1[q]? =some e1→(mj n (cn mk) q e1).bd.live=true→mj n (cn mk) q e1=⟨e1.ver,bU (np n) e1.bd⟩∧mh e1.bd∧e1.bd.live=true:=by
  intro q e1 h1 hl
  unfold mj at hl⊢
  split at hl
  ·rename_i hq
   rw[if_pos hq]
   refine⟨rfl,?_,by rw[(j5 (R:=np n) (b:=e1.bd)).2.2] at hl;exact hl⟩
   obtain⟨e2,h2,h3⟩:=xO jA q hq
   rw[cj,h1] at h3
   cases h3
   exact Bp jc q _ h2
  ·cases hl
 have Bq:∀(q:Nat)(e1:J),(mj n (cn mk) q e1).ver=e1.ver:=by intro q e1;unfold mj;split<;>rfl
 have uN:∀(k:Nat)(e:J),H'[k]? =some e→bN E' k e→(k<n∧rows[k]? =some e∧bN E k e)∨(∃q e1,k=q+n∧H1[q]? =some e1∧bN E1 q e1∧e=⟨e1.ver,bU (np n) e1.bd⟩∧mh e1.bd):=by
  intro k e h hl
  rcases get k e h with⟨h1,h2⟩ | ⟨q,e1,rfl,h2,rfl⟩
  ·exact .inl ⟨h1,h2,hl.1,fun a=>hl.2 ((lo k h1).2.2.2 a)⟩
  ·obtain⟨t1,t2,t3⟩:=told h2 hl.1
   exact .inr ⟨q,e1,rfl,h2,⟨t3,fun a=>hl.2 ((hi q).2.2.2 a)⟩,t1,t2⟩
 have aQ:∀(k:Nat)(e:J)(b:Nat),H'[k]? =some e→aB E' k e b→(k<n∧rows[k]? =some e∧aB E k e b)∨(∃q e1,k=q+n∧H1[q]? =some e1∧aB E1 q e1 b):=by
  intro k e b h hb
  rcases get k e h with⟨h1,h2⟩ | ⟨q,e1,rfl,h2,rfl⟩
  ·refine .inl ⟨h1,h2,?_⟩
   unfold aB bN at hb⊢
   rwa [(lo k h1).1,(lo k h1).2.2,qA k h1] at hb
  ·refine .inr ⟨q,e1,rfl,h2,?_⟩
   unfold mj at hb
   split at hb
   ·exact(C.aQ q e1 _ b).2 hb
   ·exact absurd hb aB.dead
 have uw:HR E' w' H':=by
  refine⟨?_,?_,?_,?_,?_,?_,?_,hr.gl.ext X,?_⟩
  ·intro k e h
   rcases get k e h with⟨h1,h2⟩ | ⟨q,e1,rfl,h2,rfl⟩
   ·rw[(lo k h1).2.1];exact hr.ver k e h2
   ·rw[(hi q).2.1,Bq];exact cd.ver q e1 h2
  ·intro k e h hl
   rcases uN k e h hl with⟨h1,h2,h3⟩ | ⟨q,e1,rfl,h2,h3,rfl,h4⟩
   ·rw[(lo k h1).1]
    exact(hr.bS k e h2 h3).ext X (fF _ (hr.lt h2 h3))
   ·rw[(hi q).1]
    exact(cd.bS q e1 h2 h3).F3 C h4
  ·intro k e h ha
   rcases get k e h with⟨h1,h2⟩ | ⟨q,e1,rfl,h2,rfl⟩
   ·exact hr.abs k e h2 ((lo k h1).2.2.1 ha)
   ·have:=cd.abs q e1 h2 ((hi q).2.2.1 ha)
    unfold mj;split
    ·rw[(j5 (R:=np n) (b:=e1.bd)).2.1];exact this
    ·rfl
  ·intro k k' e e' b h h' hl bA
   rcases aQ k e b h hl with⟨h1,h2,h3⟩ | ⟨q,e1,rfl,h2,h3⟩<;>rcases aQ k' e' b h' bA with⟨g1,g2,g3⟩ | ⟨q',jd,rfl,g2,g3⟩
   ·exact hr.inj k k' e e' b h2 g2 h3 g3
   ·have:=hr.blt h2 h3;have:=fL q' jd b g2 g3;omega
   ·have:=hr.blt g2 g3;have:=fL q e1 b h2 h3;omega
   ·rw[cd.inj q q' e1 jd b h2 g2 h3 g3]
  ·exact fun z b h=>Nat.lt_of_lt_of_le (hr.cX z b ((ez z b).1 h)) w7
  ·intro k e b h hl z hz
   rcases aQ k e b h hl with⟨h1,h2,h3⟩ | ⟨q,e1,rfl,h2,h3⟩
   ·exact hr.dC k e b h2 h3 z ((ez z _).1 hz)
   ·have:=hr.cX z _ ((ez z _).1 hz);have:=fL q e1 b h2 h3;omega
  ·intro k hk
   rw[dN,List.length_append,List.length_mapIdx] at hk
   obtain⟨q,rfl⟩:=bP k (by omega)
   have:=cd.top q (by omega)
   rw[(hi q).2.1]
   exact⟨this.1,fun a=>this.2 ((hi q).2.2.1 a)⟩
  ·intro k v ls h
   rcases get k _ h with⟨h1,h2⟩ | ⟨q,e1,rfl,h2,h3⟩
   ·rw[qA k h1]
    exact(hr.az k v ls h2).mL fun i b hb=>fF b (hr.blt h2 (.inr ⟨rfl,i,hb⟩))
   ·unfold mj at h3
    split at h3
    ·rw[qB]
     exact cd.az q e1.ver ls (by rw[h2,←xq (J.mk.inj h3).2.symm])
    ·cases h3
 refine⟨v,bJ (np n) x,H',E',he,⟨_,by rw[ka],dN,?_⟩,?_,uw,X,fun z b h=> .inl ((ez z b).1 h),by rw[dN,List.length_append];omega,?_,⟨cM.os,cM.tape,cM.output,cM.size,fun k hk _=>fF k hk,fun k cur T fz h=>⟨cur,T,fz,by rw[fF k (Array.getElem?_eq_some_iff.1 h).1];exact h,Nat.le_refl _⟩,?_⟩⟩
 ·have key:∀(ms:List (Nat×J)),(∀q,q∈cn ms→q∈cn mk)→allM H1 ms→allM H' (uP n ms):=by
    intro ms
    induction ms with
    | nil=>intro _ _;trivial
    | cons m ms ih=>
     obtain⟨q,e⟩:=m
     intro n3 hm
     refine⟨?_,ih (fun q' uR=>n3 q' (by simp[cn,uR])) hm.2⟩
     have h1:=hm.1
     rw[cj] at h1
     rw[cj,dN,List.getElem?_append_right (by omega),List.getElem?_mapIdx,show q+n - rows.length=q by omega,h1]
     unfold mj
     simp[n3 q (by simp[cn])]
  exact key mk (fun _ h=>h) jA
 ·rw[ka]
  rw[ka] at hv
  exact xP C _ _ hX hv
 ·intro k e b h hl
  rcases aQ k e b h hl with⟨h1,h2,h3⟩ | ⟨q,e1,rfl,h2,h3⟩
  ·exact .inr ⟨k,e,h2,h3⟩
  ·exact .inl (fL q e1 b h2 h3)
 ·intro k e b h hl ah
  rcases aQ k e b h hl with⟨h1,h2,h3⟩ | ⟨q,e1,rfl,h2,h3⟩
  ·intro hk
   exact hk k e h2 h3
  ·have:=fL q e1 b h2 h3;omega
def uS(rows:List J)(args dh:List AV):Prop:=∀(E E0:Env)(w:World)(vs:List Value),HR E w rows→(∀z b,E0.aC z b↔z=0∧b<w.heap.size)→aq E w args vs→aq E0 w dh vs
def As(rows:List J)(x x0:AV):Prop:=∀(E E0:Env)(w:World)(v:Value),HR E w rows→(∀z b,E0.aC z b↔z=0∧b<w.heap.size)→ae E w x v→ae E0 w x0 v
theorem iq{rows:List J}:uS rows [] []:=fun E E0 w vs _ _ h=>by rw[aq] at h⊢;exact h
theorem eA{rows:List J}{x x0:AV}{xs o4:List AV}(h:As rows x x0)(k:uS rows xs o4):uS rows (x::xs) (x0::o4):=fun E E0 w vs hr hz hv=>by
 rw[aq] at hv⊢
 obtain⟨v,dm,rfl,h1,h2⟩:=hv
 exact⟨v,dm,rfl,h E E0 w v hr hz h1,k E E0 w dm hr hz h2⟩
theorem o5{rows:List J}{u:Value}:As rows (.val u) (.val u):=fun E E0 w v _ _ h=>by rw[ae] at h⊢;exact h
theorem F4{E0:Env}{w:World}{v:Value}{l:List UInt8}(h:BS w v l)(hz:∀z b,E0.aC z b↔z=0∧b<w.heap.size)(Ms:0<l.length→∀a n c,v= .slice (some a) n c→a.spot=none):ae E0 w (.bs 0 l) v:=by
 obtain⟨a,n,c,rfl,hS⟩:=h
 rw[ae]
 refine⟨a,n,c,rfl,hS.n4.symm,hS.le,hS.max,hS.nil,fun i x hx=> ?_⟩
 have hc:∀ad,a=some ad→w.cell? (ad.add i)=some (bv x):=fun ad had=>by
  have:=hS.cell ad had i (bv x) (by simp[df,hx])
  exact this
 cases a with
 | none=>
  have h1:=hS.nil rfl
  have h2:=hS.le
  have h3:=hS.n4
  have:=(List.getElem?_eq_some_iff.1 hx).1
  omega
 | some ad=>
  obtain⟨b,o,p⟩:=ad
  have hp:=Ms (Nat.lt_of_le_of_lt (Nat.zero_le _) (List.getElem?_eq_some_iff.1 hx).1) _ _ _ rfl
  simp only at hp
  subst hp
  have h1:=hc _ rfl
  rw[Addr.add_lit] at h1
  refine⟨b,o,rfl,(hz 0 b).2 ⟨rfl,?_⟩,h1⟩
  unfold World.cell? at h1
  simp only at h1
  cases hb:w.heap[b]? with
  | none=>simp[hb] at h1
  | some _=>exact(Array.getElem?_eq_some_iff.1 hb).1
theorem xQ{rows:List J}:As rows (.val (.slice none 0 0)) (.bs 0 []):=fun E E0 w v _ hz h=>by
 rw[bq h]
 exact F4 (BS.nil w) hz (fun _ _ _ _ h=>by cases h)
theorem sv{rows:List J}{z:Nat}{l:List UInt8}:As rows (.bs z l) (.bs 0 l):=fun E E0 w v hr hz h=>by
 rw[ae] at h⊢
 obtain⟨a,n,c,rfl,h1,h2,h3,h4,h5⟩:=h
 refine⟨a,n,c,rfl,h1,h2,h3,h4,fun i x hx=> ?_⟩
 obtain⟨b,o,h6,h7,h8⟩:=h5 i x hx
 exact⟨b,o,h6,(hz 0 b).2 ⟨rfl,hr.cX z b h7⟩,h8⟩
theorem ml{rows:List J}{r ver off n:Nat}{l:List UInt8}(he:bb rows r=some ⟨ver,.bytes l⟩)(hle:off+n≤l.length):As rows (.own r ver 1 off n) (.bs 0 ((l.drop off).take n)):=fun E E0 w v hr hz h=>by
 rw[cj] at he
 have hb:=Ad hr he rfl rfl hle h
 refine F4 hb hz (fun l5 a m c hv=> ?_)
 rw[ae] at h
 obtain⟨a',c',h1,h2,h3,h4,h5⟩:=h.2 (hr.ver r _ he).symm
 rw[hv] at h1
 cases h1
 rcases h5 with h5 | ⟨_,h6,_⟩
 ·simp only[List.length_take,List.length_drop] at l5;omega
 ·cases h6;rfl
theorem Mt{rows:List J}{r ver off n:Nat}{cells:List AV}{l:List UInt8}(he:bb rows r=some ⟨ver,.obj cells⟩)(hn:n=l.length)(hle:off+n≤cells.length)(hl:∀(i:Nat)(x:UInt8),l[i]? =some x→cells[off+i]? =some (.val (bv x))):As rows (.own r ver 1 off n) (.bs 0 l):=fun E E0 w v hr hz h=>by
 rw[cj] at he
 rw[ae] at h
 rw[ae]
 obtain⟨a,c,rfl,h2,h3,h4,h5⟩:=h.2 (hr.ver r _ he).symm
 refine⟨a,n,c,rfl,hn,h2,h3,h4,fun i x hx=> ?_⟩
 have hi:=(List.getElem?_eq_some_iff.1 hx).1
 obtain⟨br,rfl,_⟩:=h5.resolve_left (by omega)
 have b9:bN E r ⟨ver,.obj cells⟩:=⟨rfl,br⟩
 obtain⟨cs,c1,c2,c3⟩:=hr.cells he (i:=0) (ys:=cells) rfl
 obtain⟨u,hu,fo⟩:=(eX c2).2 (off+i) _ (hl i x hx)
 have hq:=bq fo
 subst hq
 refine⟨_,_,rfl,(hz 0 _).2 ⟨rfl,hr.lt he b9⟩,?_⟩
 have:=c3 (off+i) _ hu
 rw[Nat.zero_mul,Nat.zero_add] at this
 rw[Nat.mul_one]
 exact this
theorem F5 {rows : List J} {r ver n : Nat} {α : Type} {f : α → List AV} {d : α} {l0 : List α} (he : bb rows r = some ⟨ver, .row 1 f d l0⟩) (hn : n = l0.length) {ls : List (List UInt8)} (hl : ls.length = n)
    (iH:∀(i:Nat)(x:α)(l:List UInt8),l0[i]? =some x→ls[i]? =some l→∃a,f x=[a]∧As rows a (.bs 0 l)):As rows (.own r ver 1 0 n) (.sl 0 1 (fun l=>[.bs 0 l]) [] ls):=fun E E0 w v hr hz h=>by
 rw[cj] at he
 simp only[ae] at h⊢
 obtain⟨a,c,rfl,h2,h3,h4,h5⟩:=h.2 (hr.ver r _ he).symm
 refine⟨a,n,c,rfl,hl.symm,h2,h3,h4,fun i x hx=> ?_⟩
 have hi:=(List.getElem?_eq_some_iff.1 hx).1
 obtain⟨br,rfl,_⟩:=h5.resolve_left (by omega)
 have b9:bN E r ⟨ver,.row 1 f d l0⟩:=⟨rfl,br⟩
 obtain⟨cur,T,lo,bP,g1,g2,g3,g4⟩:=(hr.bS r _ he b9).aQ rfl
 have fe:i<l0.length:=by omega
 obtain⟨cs,k1,k2,k3⟩:=g4 i (f l0[i]) (by simp only[Bd.at];rw[List.getElem?_eq_getElem fe];rfl)
 obtain⟨a',ha,has⟩:=iH i _ x (List.getElem?_eq_getElem fe) hx
 rw[ha] at k2
 simp only[aq] at k2
 obtain⟨u,vs,rfl,k4,rfl⟩:=k2
 refine⟨_,_,[u],rfl,(hz 0 _).2 ⟨rfl,hr.lt he b9⟩,rfl,?_,fun j v hv=> ?_⟩
 ·simp only[aq]
  exact⟨u,[],rfl,has E E0 w u hr hz k4,rfl⟩
 ·cases j with
  | zero=>
   simp at hv;subst hv
   have:=k3 0 u rfl
   rw[Nat.zero_mul,Nat.zero_add,Nat.add_zero]
   simp only[Bd.sz,Nat.add_zero] at this
   rw[cell_of_row w _ _ cur T (lo,bP) g1]
   exact this
  | succ j=>simp at hv
end

set_option linter.unusedVariables false
set_option linter.unusedSimpArgs false
open Go.RowKit
theorem Br:∀(n t:Nat)(acc:Array Value),∃l:List UInt8,l.length=n∧Extern.BytealgMakeNoZero.digits n t acc=acc++(df l).toArray
 | 0,_,acc=>⟨[],rfl,by simp[Extern.BytealgMakeNoZero.digits,df]⟩
 | n+1,t,acc=>by
  rw[Extern.BytealgMakeNoZero.digits]
  obtain⟨l,h1,h2⟩:=Br n (t/256) (acc.push (.int .u8 (Int.ofNat (t%256))))
  refine⟨UInt8.ofNat (t%256)::l,by simp[h1],?_⟩
  rw[h2]
  have:(.int .u8 (Int.ofNat (t%256)):Value)=bv (UInt8.ofNat (t%256)):=by
   unfold bv
   congr 1
   have h3:t%256<256:=Nat.mod_lt _ (by decide)
   simp
  rw[this]
  apply Array.ext'
  simp[df]
section
variable {P:Program}
theorem Out.Mu{E E':Env}{w w':World}{H:List J}{us:List (Nat×J)}(O:Out E E' w.drew.drew w' H us):Out E E' w w' H us:=
 ⟨⟨O.ext.ver,O.ext.dM,O.ext.abs,O.ext.aC,O.ext.cell,O.ext.grow,O.ext.pl⟩,O.hr,O.os,O.tape,O.output,O.size,O.aC,O.grow,O.block,O.rows⟩
theorem Mv(n t:Nat):(Extern.BytealgMakeNoZero.digits n t #[]).size=n:=by
 obtain⟨l,h1,h2⟩:=Br n t #[]
 rw[h2]
 simp[df,h1]
theorem Mw (w : World) (ps : Array TypeId) (t e : TypeId) (ht : P.underlying t = some (.slice e)) (n : Nat) (hn : n ≤ 140737488355328) :
    ∃l:List UInt8,(Extern.BytealgMakeNoZero.makeNoZero ps #[t] #[.int .i64 n]).run P w= .ok (.slice (some ⟨w.heap.size,0,none⟩) n l.length) (w.drew.drew.alloc (.cells (df l).toArray e))∧n≤l.length∧l.length≤maxLen:=by
 have h0:∃b:Nat,(Extern.BytealgMakeNoZero.makeNoZero ps #[t] #[.int .i64 n]).run P w= .ok (.slice (some ⟨w.heap.size,0,none⟩) n (Extern.BytealgMakeNoZero.digits (grownCap w n 0 e) b #[]).size) (w.drew.drew.alloc (.cells (Extern.BytealgMakeNoZero.digits (grownCap w n 0 e) b #[]) e)):=by
  obtain⟨q,hq⟩:∃q:Question,q.forced=false∧Extern.BytealgMakeNoZero.makeNoZero ps #[t] #[.int .i64 n]=(underlying t >>= fun u=>match u with
      | .slice el=>(do
       if(n:Int)<0||(n:Int)>2^48 then runtimePanic (.error "makeslice: len out of range")
       let c←choose (.appendCap (n:Int).toNat 0 el)
       askRoom c
       let b←choose q
       let a←newRow el (Extern.BytealgMakeNoZero.digits c b #[])
       pure (.slice (some a) (n:Int).toNat c))
      | _=>stuck "bytealg.MakeNoZero: slice type expected"):=⟨_,rfl,rfl⟩
  have h3:¬(n:Int)<0:=by omega
  have h4:¬(281474976710656:Int)< (n:Int):=by omega
  rw[hq.2]
  have xR:=hq.1
  have h5:(Question.appendCap n 0 e).forced=false:=rfl
  simp[run_underlying ht,h3,h4,h5,xR,newRow,grownCap,Mv]
  exact⟨_,rfl⟩
 obtain⟨b,h0⟩:=h0
 obtain⟨l,h1,h2⟩:=Br (grownCap w n 0 e) b #[]
 rw[Array.empty_append] at h2
 rw[h2] at h0
 have hs:(df l).toArray.size=l.length:=by simp[df]
 rw[hs] at h0
 exact⟨l,h0,by rw[h1];simpa using grownCap_ge w n 0 e,by rw[h1];exact grownCap_le_maxLen w n 0 e (by unfold maxLen;omega)⟩
theorem F6 {f : FuncId} {fn : Func} {ps : Array TypeId} {t e : TypeId} (hf : P.funcs[f]? = some fn) (Mx : (fn.name == "runtime.NumGoroutine") = false) (hb : fn.body.isNone = true) (n5 : Extern.findNext fn = none) (he : Extern.find fn = some (Extern.BytealgMakeNoZero.makeNoZero ps #[t]))
    (ht:P.underlying t=some (.slice e)) (n:Nat) (hn:n≤140737488355328) {args caps:List AV} (cg:args++caps=[.val (.int .i64 n)]) (r:Nat) {hg:Nat→Option J} {en:J} (hr:hg r=some en) {K:AV→List (Nat×J)→Prop}
    (hK:∀l:List UInt8,l.length=n→K (.own r (en.ver+1) 1 0 n) [(r,⟨en.ver+1,.bytes l⟩)]):eZ P (.clo f caps) args hg K:=by
 refine AQ (post:=fun x us=>∃l:List UInt8,l.length=n∧x= .own r (en.ver+1) 1 0 n∧us=[(r,⟨en.ver+1,.bytes l⟩)]) ?_ (fun v us⟨l,h1,h2,h3⟩=>by subst h2;subst h3;exact hK l h1)
 rw[cg]
 intro E H w cargs hR hh F7
 simp only[aq,ae] at F7
 obtain⟨v,vs,rfl,rfl,rfl⟩:=F7
 obtain⟨l,h1,h2,h3⟩:=Mw (P:=P) w ps t e ht n hn
 have O:=(Out.new (T:=e) (cs:=df l) (bd':= .bytes (l.take n)) hR.drew.drew (hh r en hr) (by simp[Bd.count,Bd.sz];omega) (fun i ys hy=>by
  simp only[Bd.at,Option.map_eq_some_iff,List.getElem?_take] at hy
  obtain⟨b,hb,rfl⟩:=hy
  split at hb
  ·refine⟨[bv b],rfl,by simp only[aq,ae];exact⟨_,_,rfl,rfl,rfl⟩,fun j u hu=> ?_⟩
   cases j with
   | zero=>simp at hu;subst hu;simp[Bd.sz,df,hb]
   | succ j=>simp at hu
  ·cases hb)).Mu
 refine .inr ⟨_,_,by rw[run_callFunc_extern hf Mx hb n5 he,h1];rfl,.own r (en.ver+1) 1 0 n,_,_,⟨l.take n,by simp;omega,rfl,rfl⟩,?_,O⟩
 rw[ae,Env.kH,Env.ln]
 refine⟨Nat.le_refl _,fun _=>⟨_,l.length,rfl,h2,h3,(fun h=>by cases h),.inr ⟨Env.oK _ _ _ _,rfl,_,_,_,heap_alloc_new _ _,by simp⟩⟩⟩
end

set_option linter.unusedVariables false
set_option linter.unusedSimpArgs false
open Go.RowKit
def gR(n m:Nat):Ren:=⟨fun r=>if r<n then r else r+m,fun _=>0⟩
def mm(n m:Nat)(e:J):J:=⟨e.ver,bU (gR n m) e.bd⟩
def nq(n m:Nat):List J→List J
 | []=>[]
 | e::es=>mm n m e::nq n m es
def Bt(n m:Nat):List (Nat×J)→List (Nat×J)
 | []=>[]
 | (q,e)::ms=>(q+m,mm n m e)::Bt n m ms
def xS:List J→Prop
 | []=>True
 | e::es=>mh (J.bd e)∧xS es
theorem Bu:∀{l:List J},xS l→∀(r:Nat)(e:J),l[r]? =some e→mh e.bd
 | x::l,h,0,e,he=>by simp at he;subst he;exact h.1
 | x::l,h,r+1,e,he=>Bu (l:=l) h.2 r e (by simpa using he)
theorem F8(n m:Nat):∀(l:List J)(r:Nat),(nq n m l)[r]? =(l[r]?).map (mm n m)
 | [],r=>by simp[nq]
 | x::l,0=>by simp[nq]
 | x::l,r+1=>by simpa [nq] using F8 n m l r
theorem F9(n m:Nat):∀(l:List J),(nq n m l).length=l.length
 | []=>rfl
 | x::l=>by simp[nq,F9 n m l]
def eM(n:Nat):List (Nat×J)→Prop
 | []=>True
 | (q,_)::ms=>n≤q∧eM n ms
theorem Bv{n:Nat}:∀{ms:List (Nat×J)},eM n ms→∀q,q∈cn ms→n≤q
 | (q',e')::ms,h,q,hq=>by
  simp only[cn,List.mem_cons] at hq
  rcases hq with rfl | hq
  ·exact h.1
  ·exact Bv h.2 q hq
def mn(n m:Nat)(ids:List Nat)(q:Nat)(e:J):J:=if q<n∨q∈ids then mm n m e else⟨e.ver,.dead⟩
structure xT(D:Nat→Prop)(E Ec:Env):Prop where
 ver:∀r,D r→Ec.ver r=E.ver r
 dM:∀r,D r→Ec.ρ r=E.ρ r
 abs:∀r,D r→(Ec.abs r↔E.abs r)
 pl:∀r,D r→Ec.pl r=E.pl r
mutual
theorem Bw{D:Nat→Prop}{E Ec:Env}{w:World}(C:xT D E Ec):∀(x:AV)(v:Value),n0 x→cQ D x→ae E w x v→ae Ec w x v
 | .any,v,_,_,h=>by simp only[ae]
 | .val u,v,_,_,h=>by simp only[ae] at h⊢;exact h
 | .agg l,v,hz,ho,h=>by
  simp only[ae] at h⊢
  obtain⟨cs,rfl,h⟩:=h
  exact⟨cs,rfl,uT C l cs hz ho h⟩
 | .aD l,v,hz,ho,h=>by
  simp only[ae] at h⊢
  obtain⟨cs,rfl,h⟩:=h
  exact⟨cs,rfl,uT C l cs hz ho h⟩
 | .bs z l,v,hz,_,_=>hz.elim
 | .sl z sz f d l,v,hz,_,_=>hz.elim
 | .own r ver sz off n,v,hz,ho,h=>by
  simp only[ae,C.ver r ho,C.dM r ho,C.abs r ho] at h⊢
  exact h
 | .ref r ver sz i j,v,hz,ho,h=>by
  simp only[ae,C.ver r ho,C.dM r ho] at h⊢
  exact h
 | .cp z cells j,v,hz,_,_=>hz.elim
 | .clo f caps,v,hz,ho,h=>by
  simp only[ae] at h⊢
  obtain⟨cs,rfl,h⟩:=h
  exact⟨cs,rfl,uT C caps cs hz ho h⟩
 | .gG r ver,v,hz,ho,h=>by
  simp only[ae,C.ver r ho,C.dM r ho] at h⊢
  exact h
 | .pl r ver i off n,v,hz,ho,h=>by
  simp only[ae,C.ver r ho,C.pl r ho] at h⊢
  exact h
 | .iQ r ver i k,v,hz,ho,h=>by
  simp only[ae,C.ver r ho,C.pl r ho] at h⊢
  exact h
 | .gd φ x,v,hz,ho,h=>by
  simp only[ae] at h⊢
  exact⟨fun p=>Bw C x v hz ho (h.1 p),h.2⟩
theorem uT{D:Nat→Prop}{E Ec:Env}{w:World}(C:xT D E Ec):∀(xs:List AV)(vs:List Value),nl xs→cR D xs→aq E w xs vs→aq Ec w xs vs
 | [],vs,_,_,h=>by simp only[aq] at h⊢;exact h
 | x::xs,vs,hz,ho,h=>by
  simp only[aq] at h⊢
  obtain⟨v,dm,rfl,h1,h2⟩:=h
  exact⟨v,dm,rfl,Bw C x v hz.1 ho.1 h1,uT C xs dm hz.2 ho.2 h2⟩
end
theorem fm.My{D:Nat→Prop}{E Ec:Env}{w:World}(C:xT D E Ec){b:Nat}{bd:Bd}(hz:mh bd)(ho:dr D bd)(h:fm E w b bd):fm Ec w b bd:=
 ⟨fun hl=>by
  obtain⟨cur,T,lo,hi,h1,h2,h3,h4⟩:=h.aQ hl
  exact⟨cur,T,lo,hi,h1,h2,h3,fun i ys hy=>by
   obtain⟨cs,h5,h6,h7⟩:=h4 i ys hy
   exact⟨cs,h5,uT C _ _ (F0 hz hy) (AP ho hy) h6,h7⟩⟩,fun i tR st e=>by subst e;exact hz.elim⟩
section
variable {P:Program}
def sx(H0 R:List J)(args dh:List AV):Prop:=∀(E E0:Env)(w:World)(vs:List Value),HR E w (H0++R)→
 (∀z b,E0.aC z b↔z=0∧b<w.heap.size∧∀(r:Nat)(e:J),H0[r]? =some e→¬aB E r e b)→
 (∀r,r<H0.length→E0.ρ r=E.ρ r∧E0.ver r=E.ver r∧(E0.abs r↔E.abs r)∧E0.pl r=E.pl r)→aq E w args vs→aq E0 w dh vs
theorem n9 {f : FuncId} {dh : List AV} {H0 : List J} {X : AV} {rows : List J} {mk : List (Nat × J)} (S : Spec P f dh H0 (ak X rows mk)) (hX : n0 X) (hH : xS H0) (Ga : dL (fun _ e => dr (· < H0.length) e.bd) H0 0) (xU : xS rows) (gP : rows.length = H0.length) (jc : uQ mk) (gh : eM H0.length mk) {args : List AV} {R : List J}
    (cg:sx H0 R args dh):
    Spec P f args (H0++R) (ak (bJ (gR H0.length R.length) X) (nq H0.length R.length rows++R) (Bt H0.length R.length mk)):=by
 intro w E cargs hr uu
 obtain⟨n,hn⟩:∃n,n=H0.length:=⟨_,rfl⟩
 obtain⟨m,hm⟩:∃m,m=R.length:=⟨_,rfl⟩
 rw[←hn] at gh gP Ga
 have Gb:(H0++R).length=n+m:=by rw[List.length_append];omega
 have fq:∀(r:Nat)(e:J),H0[r]? =some e→(H0++R)[r]? =some e∧r<n:=fun r e h=>by
  have:=(List.getElem?_eq_some_iff.1 h).1
  exact⟨by rw[List.getElem?_append_left this];exact h,by omega⟩
 have gS:∀(q:Nat)(e:J),R[q]? =some e→(H0++R)[q+n]? =some e∧q<m:=fun q e h=>by
  have:=(List.getElem?_eq_some_iff.1 h).1
  exact⟨by rw[List.getElem?_append_right (by omega),show q+n - H0.length=q by omega];exact h,by omega⟩
 have lI:=hr.top
 rw[Gb] at lI
 obtain⟨E0,il⟩:∃E0:Env,E0={ρ:=fun r=>if r<n then E.ρ r else E.ρ (r+m),ver:=fun r=>if r<n then E.ver r else 0,aC:=fun z b=>z=0∧b<w.heap.size∧∀(r:Nat)(e:J),H0[r]? =some e→¬aB E r e b,abs:=fun r=>if r<n then E.abs r else False,pl:=fun r=>if r<n then E.pl r else E.pl (r+m)}:=⟨_,rfl⟩
 have jW:∀z b,E0.aC z b↔z=0∧b<w.heap.size∧∀(r:Nat)(e:J),H0[r]? =some e→¬aB E r e b:=by subst il;exact fun _ _=>Iff.rfl
 have je:∀r,r<n→E0.ρ r=E.ρ r∧E0.ver r=E.ver r∧(E0.abs r↔E.abs r):=by intro r h;subst il;simp[h]
 have fe:∀r,¬r<n→E0.ρ r=E.ρ (r+m)∧E0.ver r=0∧¬E0.abs r:=by intro r h;subst il;simp[h]
 have uU:∀r,r<n→E0.pl r=E.pl r:=by intro r h;subst il;simp[h]
 have Mz:∀r,¬r<n→E0.pl r=E.pl (r+m):=by intro r h;subst il;simp[h]
 have Gc:∀(r:Nat)(e:J),r<n→(bN E0 r e↔bN E r e):=fun r e h=>by unfold bN;rw[(je r h).2.2]
 have uV:∀(r:Nat)(e:J)(b:Nat),r<n→(aB E0 r e b↔aB E r e b):=fun r e b h=>by unfold aB;rw[Gc r e h,(je r h).1,uU r h]
 have S0:xT (· <n) E E0:=⟨fun r h=>(je r h).2.1,fun r h=>(je r h).1,fun r h=>(je r h).2.2,fun r h=>uU r h⟩
 have j6:HR E0 w H0:=by
  refine⟨fun r e h=> ?_,fun r e h hl=> ?_,fun r e h ha=> ?_,fun r r' e e' b h h' hl bA=> ?_,fun z b h=>((jW z b).1 h).2.1,fun r e b h hl z hz=> ?_,fun r h=> ?_,fun g cs hg=>⟨(jW 0 g).2 ⟨rfl,hr.cX 0 g (hr.gl g cs hg).1,fun r e h hl=>hr.dC r e g (fq r e h).1 hl 0 (hr.gl g cs hg).1⟩,(hr.gl g cs hg).2⟩,fun r v ls h=> ?_⟩
  ·rw[(je r (fq r e h).2).2.1];exact hr.ver r e (fq r e h).1
  ·have h2:=(fq r e h).2
   rw[(je r h2).1]
   have h3:=ss Ga h
   exact(hr.bS r e (fq r e h).1 ((Gc r e h2).1 hl)).My S0 (Bu hH r e h) h3
  ·exact hr.abs r e (fq r e h).1 ((je r (fq r e h).2).2.2.1 ha)
  ·have h2:=(fq r e h).2;have iT:=(fq r' e' h').2
   exact hr.inj r r' e e' b (fq r e h).1 (fq r' e' h').1 ((uV r e b h2).1 hl) ((uV r' e' b iT).1 bA)
  ·have h2:=(fq r e h).2
   exact((jW z _).1 hz).2.2 r e h ((uV r e b h2).1 hl)
  ·have:=fe r (by omega);exact⟨this.2.1,this.2.2⟩
  ·rw[uU r (fq r _ h).2];exact hr.az r v ls (fq r _ h).1
 refine Calls.mono (S w E0 cargs j6 (cg E E0 w cargs hr jW (fun r h=>⟨(je r (by omega)).1,(je r (by omega)).2.1,(je r (by omega)).2.2,uU r (by omega)⟩) uu)) fun e w'⟨v,x,H1,E1,he,lC,hv,cd,X1,mc,sd,me,cM⟩=> ?_
 obtain⟨tl,ka,nR,jA⟩:=lC
 have fF:∀k,k<w.heap.size→(∀(r:Nat)(e:J),H0[r]? =some e→¬aB E r e k)→w'.heap[k]? =w.heap[k]?:=fun k hk h=>X1.cell 0 k ((jW 0 k).2 ⟨rfl,hk,h⟩)
 have w7:=cM.size
 have fL:∀(r:Nat)(e:J)(b:Nat),H1[r]? =some e→aB E1 r e b→w.heap.size≤b∨(∃(r0:Nat)(e0:J),r0<n∧H0[r0]? =some e0∧aB E r0 e0 b):=by
  intro r e b h1 h2
  rcases me r e b h1 h2 with h | ⟨r0,e0,h,h3⟩
  ·exact .inl h
  ·have h5:=(fq r0 e0 h).2
   exact .inr ⟨r0,e0,h5,h,(uV r0 e0 b h5).1 h3⟩
 obtain⟨E',aN⟩:∃E':Env,E'={ρ:=fun k=>if k<n then E1.ρ k else if k<n+m then E.ρ k else E1.ρ (k - m),ver:=fun k=>if k<n then E1.ver k else if k<n+m then E.ver k else E1.ver (k - m),aC:=E.aC,abs:=fun k=>if k<n then E1.abs k else if k<n+m then E.abs k else E1.abs (k - m),pl:=fun k=>if k<n then E1.pl k else if k<n+m then E.pl k else E1.pl (k - m)}:=⟨_,rfl⟩
 have lo:∀k,k<n→E'.ρ k=E1.ρ k∧E'.ver k=E1.ver k∧(E'.abs k↔E1.abs k):=by intro k hk;subst aN;simp[hk]
 have mi:∀k,k<m→E'.ρ (k+n)=E.ρ (k+n)∧E'.ver (k+n)=E.ver (k+n)∧(E'.abs (k+n)↔E.abs (k+n)):=by
  intro k hk;subst aN
  have h1:¬k+n<n:=by omega
  have h2:k+n<n+m:=by omega
  simp[h1,h2]
 have hi:∀k,¬k<n→E'.ρ (k+m)=E1.ρ k∧E'.ver (k+m)=E1.ver k∧(E'.abs (k+m)↔E1.abs k):=by
  intro k hk;subst aN
  have h1:¬k+m<n:=by omega
  have h2:¬k+m<n+m:=by omega
  simp[h1,h2]
 have qA:∀k,k<n→E'.pl k=E1.pl k:=by intro k hk;subst aN;simp[hk]
 have Bx:∀k,k<m→E'.pl (k+n)=E.pl (k+n):=by
  intro k hk;subst aN
  have h1:¬k+n<n:=by omega
  have h2:k+n<n+m:=by omega
  simp[h1,h2]
 have qB:∀k,¬k<n→E'.pl (k+m)=E1.pl k:=by
  intro k hk;subst aN
  have h1:¬k+m<n:=by omega
  have h2:¬k+m<n+m:=by omega
  simp[h1,h2]
 have three:∀k,k<n∨(∃q,q<m∧k=q+n)∨(∃q,¬q<n∧k=q+m):=by
  intro k
  by_cases h1:k<n
  ·exact .inl h1
  ·by_cases h2:k<n+m
   ·exact .inr (.inl ⟨k - n,by omega,by omega⟩)
   ·exact .inr (.inr ⟨k - m,by omega,by omega⟩)
 have ez:∀z b,E'.aC z b↔E.aC z b:=by intro z b;subst aN;exact Iff.rfl
 have C:qz (gR n m) E1 E':=by
  refine⟨fun r=> ?_,fun r=> ?_,fun r=> ?_,fun r=> ?_⟩<;>by_cases h:r<n
  ·simp only[gR,if_pos h,Nat.add_zero];exact(lo r h).2.1
  ·simp only[gR,if_neg h,Nat.add_zero];exact(hi r h).2.1
  ·simp only[gR,if_pos h];exact(lo r h).1
  ·simp only[gR,if_neg h];exact(hi r h).1
  ·simp only[gR,if_pos h];exact(lo r h).2.2
  ·simp only[gR,if_neg h];exact(hi r h).2.2
  ·simp only[gR,if_pos h];exact qA r h
  ·simp only[gR,if_neg h];exact qB r h
 have Gd:∀(q:Nat)(e:J)(b:Nat),R[q]? =some e→aB E (q+n) e b→w'.heap[b]? =w.heap[b]?:=by
  intro q e b h hl
  refine fF _ (hr.blt (gS q e h).1 hl) fun r e' h' bA=> ?_
  have:=hr.inj r (q+n) e' e b (fq r e' h').1 (gS q e h).1 bA hl
  have:=(fq r e' h').2;omega
 have X:Ext E E' w w':=by
  refine⟨fun k=> ?_,fun k hk=> ?_,fun k hk=> ?_,fun z b h=>(ez z b).2 h,fun z b h=>fF b (hr.cX z b h) (fun r e h1 h2=>hr.dC r e b (fq r e h1).1 h2 z h),fun k cur T fz h=>cM.grow _ cur T fz h,fun k hk i b hb=> ?_⟩
  ·rcases three k with h | ⟨q,h,rfl⟩ | ⟨q,h,rfl⟩
   ·rw[(lo k h).2.1,←(je k h).2.1];exact X1.ver k
   ·rw[(mi q h).2.1];exact Nat.le_refl _
   ·rw[(lI (q+m) (by omega)).1];exact Nat.zero_le _
  ·rcases three k with h | ⟨q,h,rfl⟩ | ⟨q,h,rfl⟩
   ·rw[(lo k h).2.1,←(je k h).2.1] at hk
    rw[(lo k h).1,X1.dM k hk,(je k h).1]
   ·exact(mi q h).1
   ·rw[(hi q h).2.1,(lI (q+m) (by omega)).1] at hk
    rw[(hi q h).1,X1.dM q (by rw[hk,(fe q h).2.1]),(fe q h).1]
  ·rcases three k with h | ⟨q,h,rfl⟩ | ⟨q,h,rfl⟩
   ·rw[(lo k h).2.1,←(je k h).2.1] at hk
    rw[(lo k h).2.2,X1.abs k hk,(je k h).2.2]
   ·exact(mi q h).2.2
   ·rw[(hi q h).2.1,(lI (q+m) (by omega)).1] at hk
    rw[(hi q h).2.2,X1.abs q (by rw[hk,(fe q h).2.1])]
    exact⟨fun a=>((fe q h).2.2 a).elim,fun a=>((lI (q+m) (by omega)).2 a).elim⟩
  ·rcases three k with h | ⟨q,h,rfl⟩ | ⟨q,h,rfl⟩
   ·rw[(lo k h).2.1,←(je k h).2.1] at hk
    rw[qA k h]
    exact X1.pl k hk i b (by rw[uU k h];exact hb)
   ·rw[Bx q h];exact hb
   ·rw[(hi q h).2.1,(lI (q+m) (by omega)).1] at hk
    rw[qB q h]
    exact X1.pl q (by rw[hk,(fe q h).2.1]) i b (by rw[Mz q h];exact hb)
 have UU:n≤H1.length:=by omega
 obtain⟨H',dN⟩:∃H':List J,H'=nq n m rows++R++(tl.mapIdx fun q e=>mn n m (cn mk) (q+n) e):=⟨_,rfl⟩
 have sy:(nq n m rows).length=n:=by rw[F9];exact gP
 have MA:∀r,r<n→H1[r]? =rows[r]?:=fun r h=>by rw[nR,List.getElem?_append_left (by omega)]
 have Ge:∀q,¬q<n→H1[q]? =tl[q - n]?:=fun q h=>by rw[nR,List.getElem?_append_right (by omega),gP]
 have get:∀(k:Nat)(e:J),H'[k]? =some e→(k<n∧∃e1,H1[k]? =some e1∧rows[k]? =some e1∧e=mm n m e1)∨(∃q,k=q+n∧R[q]? =some e)∨(∃q e1,¬q<n∧k=q+m∧H1[q]? =some e1∧e=mn n m (cn mk) q e1):=by
  intro k e h
  rw[dN,List.append_assoc,List.getElem?_append] at h
  split at h
  ·rename_i q
   rw[F8,Option.map_eq_some_iff] at h
   obtain⟨e1,h1,h2⟩:=h
   exact .inl ⟨by omega,e1,by rw[MA k (by omega)];exact h1,h1,h2.symm⟩
  ·rename_i q
   rw[List.getElem?_append] at h
   split at h
   ·exact .inr (.inl ⟨k - n,by omega,by rw[sy] at h;exact h⟩)
   ·rename_i q2
    rw[List.getElem?_mapIdx,Option.map_eq_some_iff] at h
    obtain⟨e1,h1,h2⟩:=h
    rw[sy] at h1 h2 q2
    refine .inr (.inr ⟨k - m,e1,by omega,by omega,?_,?_⟩)
    ·rw[Ge _ (by omega),←h1];congr 1;omega
    ·rw[←h2];congr 1;omega
 have told:∀{q:Nat}{e1:J},H1[q]? =some e1→(mn n m (cn mk) q e1).bd.live=true→¬q<n→mn n m (cn mk) q e1=mm n m e1∧mh e1.bd∧e1.bd.live=true:=by
  intro q e1 h1 hl jf
  unfold mn at hl⊢
  split at hl
  ·rename_i hq
   rw[if_pos hq]
   refine⟨rfl,?_,by unfold mm at hl;rw[(j5 (R:=gR n m) (b:=e1.bd)).2.2] at hl;exact hl⟩
   obtain⟨e2,h2,h3⟩:=xO jA q (hq.resolve_left jf)
   rw[cj,h1] at h3
   cases h3
   exact Bp jc q _ h2
  ·cases hl
 have Bq:∀(q:Nat)(e1:J),(mn n m (cn mk) q e1).ver=e1.ver:=by intro q e1;unfold mn;split<;>rfl
 have uN:∀(k:Nat)(e:J),H'[k]? =some e→bN E' k e→(∃q e1,(q<n∧k=q∨¬q<n∧k=q+m)∧H1[q]? =some e1∧bN E1 q e1∧e=mm n m e1∧mh e1.bd∧E'.ρ k=E1.ρ q)∨(∃q,k=q+n∧R[q]? =some e∧bN E (q+n) e∧E'.ρ k=E.ρ (q+n)):=by
  intro k e h hl
  rcases get k e h with⟨h1,e1,h2,h3,rfl⟩ | ⟨q,rfl,h2⟩ | ⟨q,e1,h1,rfl,h2,rfl⟩
  ·refine .inl ⟨k,e1,.inl ⟨h1,rfl⟩,h2,⟨?_,fun a=>hl.2 ((lo k h1).2.2.2 a)⟩,rfl,Bu xU k e1 h3,(lo k h1).1⟩
   have:=hl.1;unfold mm at this;rw[(j5 (R:=gR n m) (b:=e1.bd)).2.2] at this;exact this
  ·have hq:=(gS q e h2).2
   exact .inr ⟨q,rfl,h2,⟨hl.1,fun a=>hl.2 ((mi q hq).2.2.2 a)⟩,(mi q hq).1⟩
  ·obtain⟨t1,t2,t3⟩:=told h2 hl.1 h1
   exact .inl ⟨q,e1,.inr ⟨h1,rfl⟩,h2,⟨t3,fun a=>hl.2 ((hi q h1).2.2.2 a)⟩,t1,t2,(hi q h1).1⟩
 have aQ:∀(k:Nat)(e:J)(b:Nat),H'[k]? =some e→aB E' k e b→(∃q e1,(q<n∧k=q∨¬q<n∧k=q+m)∧H1[q]? =some e1∧aB E1 q e1 b)∨(∃q,k=q+n∧R[q]? =some e∧aB E (q+n) e b):=by
  intro k e b h hb
  have s1:∀q,q<n→(gR n m).σ q=q:=fun q hq=>by simp[gR,hq]
  have s2:∀q,¬q<n→(gR n m).σ q=q+m:=fun q hq=>by simp[gR,hq]
  rcases get k e h with⟨h1,e1,h2,h3,rfl⟩ | ⟨q,rfl,h2⟩ | ⟨q,e1,h1,rfl,h2,rfl⟩
  ·exact .inl ⟨k,e1,.inl ⟨h1,rfl⟩,h2,(C.aQ k e1 e1.ver b).2 (by rw[s1 k h1];exact hb)⟩
  ·have hq:=(gS q e h2).2
   refine .inr ⟨q,rfl,h2,?_⟩
   unfold aB bN at hb⊢
   rwa [(mi q hq).1,(mi q hq).2.2,Bx q hq] at hb
  ·unfold mn at hb
   split at hb
   ·exact .inl ⟨q,e1,.inr ⟨h1,rfl⟩,h2,(C.aQ q e1 e1.ver b).2 (by rw[s2 q h1];exact hb)⟩
   ·exact absurd hb aB.dead
 have uw:HR E' w' H':=by
  refine⟨?_,?_,?_,?_,?_,?_,?_,hr.gl.ext X,?_⟩
  ·intro k e h
   rcases get k e h with⟨h1,e1,h2,h3,rfl⟩ | ⟨q,rfl,h2⟩ | ⟨q,e1,h1,rfl,h2,rfl⟩
   ·rw[(lo k h1).2.1];exact cd.ver k e1 h2
   ·rw[(mi q (gS q e h2).2).2.1];exact hr.ver _ e (gS q e h2).1
   ·rw[(hi q h1).2.1,Bq];exact cd.ver q e1 h2
  ·intro k e h hl
   rcases uN k e h hl with⟨q,e1,h1,h2,h3,rfl,h4,h5⟩ | ⟨q,rfl,h2,h3,h5⟩
   ·rw[h5]
    exact(cd.bS q e1 h2 h3).F3 C h4
   ·rw[h5]
    exact(hr.bS _ e (gS q e h2).1 h3).ext X (Gd q e _ h2 (aB.of h3))
  ·intro k e h ha
   rcases get k e h with⟨h1,e1,h2,h3,rfl⟩ | ⟨q,rfl,h2⟩ | ⟨q,e1,h1,rfl,h2,rfl⟩
   ·have:=cd.abs k e1 h2 ((lo k h1).2.2.1 ha)
    unfold mm;rw[(j5 (R:=gR n m) (b:=e1.bd)).2.1];exact this
   ·exact hr.abs _ e (gS q e h2).1 ((mi q (gS q e h2).2).2.2.1 ha)
   ·have:=cd.abs q e1 h2 ((hi q h1).2.2.1 ha)
    unfold mn;split
    ·unfold mm;rw[(j5 (R:=gR n m) (b:=e1.bd)).2.1];exact this
    ·rfl
  ·intro k k' e e' b h h' hl bA
   rcases aQ k e b h hl with⟨q,e1,h1,h2,h3⟩ | ⟨q,rfl,h2,h3⟩<;>rcases aQ k' e' b h' bA with⟨q',jd,g1,g2,g3⟩ | ⟨q',rfl,g2,g3⟩
   ·have:=cd.inj q q' e1 jd b h2 g2 h3 g3
    omega
   ·have k1:=hr.blt (gS q' e' g2).1 g3
    rcases fL q e1 b h2 h3 with h | ⟨r0,e0,k2,k3,k4⟩
    ·omega
    ·have:=hr.inj r0 (q'+n) e0 e' b (fq r0 e0 k3).1 (gS q' e' g2).1 k4 g3
     omega
   ·have k1:=hr.blt (gS q e h2).1 h3
    rcases fL q' jd b g2 g3 with h | ⟨r0,e0,k2,k3,k4⟩
    ·omega
    ·have:=hr.inj (q+n) r0 e e0 b (gS q e h2).1 (fq r0 e0 k3).1 h3 k4
     omega
   ·exact hr.inj _ _ e e' b (gS q e h2).1 (gS q' e' g2).1 h3 g3
  ·exact fun z b h=>Nat.lt_of_lt_of_le (hr.cX z b ((ez z b).1 h)) w7
  ·intro k e b h hl z hz
   have o6:=(ez z _).1 hz
   rcases aQ k e b h hl with⟨q,e1,h1,h2,h3⟩ | ⟨q,rfl,h2,h3⟩
   ·rcases fL q e1 b h2 h3 with h | ⟨r0,e0,k2,k3,k4⟩
    ·have:=hr.cX z _ o6;omega
    ·exact hr.dC r0 e0 b (fq r0 e0 k3).1 k4 z o6
   ·exact hr.dC _ e b (gS q e h2).1 h3 z o6
  ·intro k hk
   have fM:H1.length=n+tl.length:=by rw[nR,List.length_append,gP]
   rw[dN,List.length_append,List.length_append,sy,List.length_mapIdx] at hk
   have:=cd.top (k - m) (by omega)
   have h2:=hi (k - m) (by omega)
   rw[show k - m+m=k by omega] at h2
   rw[h2.2.1]
   exact⟨this.1,fun a=>this.2 (h2.2.2.1 a)⟩
  ·intro k v ls h
   rcases get k _ h with⟨h1,e1,h2,h3,h4⟩ | ⟨q,rfl,h2⟩ | ⟨q,e1,h1,rfl,h2,h4⟩
   ·rw[qA k h1]
    exact cd.az k e1.ver ls (by rw[h2,←xq (J.mk.inj h4).2.symm])
   ·rw[Bx q (gS q _ h2).2]
    exact(hr.az _ v ls (gS q _ h2).1).mL fun i b hb=>Gd q _ b h2 (.inr ⟨rfl,i,hb⟩)
   ·unfold mn at h4
    split at h4
    ·rw[qB q h1]
     exact cd.az q e1.ver ls (by rw[h2,←xq (J.mk.inj h4).2.symm])
    ·cases h4
 refine⟨v,bJ (gR n m) x,H',E',he,⟨_,by rw[ka,hn,hm],by rw[dN,hn,hm],?_⟩,?_,uw,X,fun z b h=> .inl ((ez z b).1 h),by rw[dN,Gb,List.length_append,List.length_append,sy];omega,?_,⟨cM.os,cM.tape,cM.output,cM.size,fun k hk kG=> ?_,cM.grow,?_⟩⟩
 ·have key:∀(ms:List (Nat×J)),(∀q,q∈cn ms→q∈cn mk)→eM n ms→allM H1 ms→allM H' (Bt n m ms):=by
    intro ms
    induction ms with
    | nil=>intro _ _ _;trivial
    | cons y ms ih=>
     obtain⟨q,e⟩:=y
     intro n3 hg fu
     refine⟨?_,ih (fun q' uR=>n3 q' (by simp[cn,uR])) hg.2 fu.2⟩
     have h1:=fu.1
     have MB:¬q<n:=by have:=hg.1;omega
     rw[cj,Ge q MB] at h1
     rw[cj,dN,List.getElem?_append_right (by rw[List.length_append,sy];omega),List.getElem?_mapIdx,List.length_append,sy,show q+m - (n+R.length)=q - n by omega,h1]
     unfold mn
     have:q - n+n=q:=by omega
     simp[n3 q (by simp[cn]),this]
  rw[←hn,←hm]
  exact key mk (fun _ h=>h) gh jA
 ·rw[ka]
  rw[ka] at hv
  exact xP C _ _ hX hv
 ·intro k e b h hl
  rcases aQ k e b h hl with⟨q,e1,h1,h2,h3⟩ | ⟨q,rfl,h2,h3⟩
  ·rcases fL q e1 b h2 h3 with h | ⟨r0,e0,k2,k3,k4⟩
   ·exact .inl h
   ·exact .inr ⟨r0,e0,(fq r0 e0 k3).1,k4⟩
  ·exact .inr ⟨_,e,(gS q e h2).1,h3⟩
 ·exact cM.block k hk fun r e h1 h2=>kG r e (fq r e h1).1 ((uV r e k (fq r e h1).2).1 h2)
 ·intro k e b h hl ah
  rcases aQ k e b h hl with⟨q,e1,h1,h2,h3⟩ | ⟨q,rfl,h2,h3⟩
  ·rcases fL q e1 b h2 h3 with h | ⟨r0,e0,k2,k3,k4⟩
   ·omega
   ·intro hk;exact hk r0 e0 (fq r0 e0 k3).1 k4
  ·intro hk;exact hk _ e (gS q e h2).1 h3
def AX(H0 R:List J)(x x0:AV):Prop:=∀(E E0:Env)(w:World)(v:Value),HR E w (H0++R)→
 (∀z b,E0.aC z b↔z=0∧b<w.heap.size∧∀(r:Nat)(e:J),H0[r]? =some e→¬aB E r e b)→
 (∀r,r<H0.length→E0.ρ r=E.ρ r∧E0.ver r=E.ver r∧(E0.abs r↔E.abs r)∧E0.pl r=E.pl r)→ae E w x v→ae E0 w x0 v
theorem mo{H0 R:List J}:sx H0 R [] []:=fun E E0 w vs _ _ _ h=>by rw[aq] at h⊢;exact h
theorem fO{H0 R:List J}{x x0:AV}{xs o4:List AV}(h:AX H0 R x x0)(k:sx H0 R xs o4):sx H0 R (x::xs) (x0::o4):=fun E E0 w vs hr hz oa hv=>by
 rw[aq] at hv⊢
 obtain⟨v,dm,rfl,h1,h2⟩:=hv
 exact⟨v,dm,rfl,h E E0 w v hr hz oa h1,k E E0 w dm hr hz oa h2⟩
theorem mq{H0 R:List J}{x:AV}(hz:n0 x)(ho:cQ (· <H0.length) x):AX H0 R x x:=fun E E0 w v _ _ oa h=>
 Bw ⟨fun r hr=>(oa r hr).2.1,fun r hr=>(oa r hr).1,fun r hr=>(oa r hr).2.2.1,fun r hr=>(oa r hr).2.2.2⟩ x v hz ho h
theorem oc{H0 R:List J}{q ver off n:Nat}{l:List UInt8}(he:bb R q=some ⟨ver,.bytes l⟩)(hle:off+n≤l.length):AX H0 R (.own (q+H0.length) ver 1 off n) (.bs 0 ((l.drop off).take n)):=fun E E0 w v hr hz _ h=>by
 rw[cj] at he
 have ig:(H0++R)[q+H0.length]? =some ⟨ver,.bytes l⟩:=by
  rw[List.getElem?_append_right (by omega),show q+H0.length - H0.length=q by omega];exact he
 have hb:=Ad hr ig rfl rfl hle h
 rw[ae] at h
 obtain⟨a',c',hv,h2,h3,h4,h5⟩:=h.2 (hr.ver _ _ ig).symm
 obtain⟨a,n',c,Gf,hS⟩:=hb
 rw[hv] at Gf
 cases Gf
 rw[hv,ae]
 refine⟨a',n,c',rfl,hS.n4.symm,hS.le,hS.max,hS.nil,fun i x hx=> ?_⟩
 have hn:0<n:=by
  have:=(List.getElem?_eq_some_iff.1 hx).1
  simp only[List.length_take,List.length_drop] at this;omega
 obtain⟨br,rfl,_⟩:=h5.resolve_left (by omega)
 have hc:=hS.cell _ rfl i (bv x) (by rw[df,List.getElem?_map,hx];rfl)
 rw[Addr.add_lit] at hc
 refine⟨_,_,rfl,(hz 0 _).2 ⟨rfl,hr.lt ig ⟨rfl,br⟩,fun r e nr hl=> ?_⟩,hc⟩
 have gP:=(List.getElem?_eq_some_iff.1 nr).1
 have:=hr.inj r (q+H0.length) e _ _ (by rw[List.getElem?_append_left gP];exact nr) ig hl (aB.of ⟨rfl,br⟩)
 omega
theorem MC{X:AV}{rows:List J}{x:AV}{H:List J}(h:bZ X rows x H):ak X rows [] x H:=by
 obtain⟨tl,h1,h2⟩:=h
 exact⟨tl,h1,h2,trivial⟩
theorem uW{f:FuncId}{args:List AV}{H0:List J}{p q:AV→List J→Prop}(S:Spec P f args H0 p)(h:∀x H,p x H→q x H):Spec P f args H0 q:=fun w E cargs hr ha=>
 Calls.mono (S w E cargs hr ha) fun e w'⟨v,x,H1,E1,he,lC,r⟩=>⟨v,x,H1,E1,he,h x H1 lC,r⟩
theorem uX{f:FuncId}{args:List AV}{H0:List J}{X:AV}{rows:List J}(S:Spec P f args H0 (bZ X rows)):Spec P f args H0 (ak X rows []):=uW S fun _ _ h=>MC h
end
end Go.Proofs.YtpbpiehcchannaaGreatDoor
