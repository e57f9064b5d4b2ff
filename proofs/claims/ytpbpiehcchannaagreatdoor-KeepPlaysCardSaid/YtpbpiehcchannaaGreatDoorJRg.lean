/- A law for a region that draws its order: each operation is walked once, under what the operations that it waits for have left; what it leaves must be stable under what the others may do (a preorder G on worlds). Then the region comes to its end in every order. Conditions: the premises of 'wp_region_rg'. -/
import Derived.Orders
import Derived.Tactics
namespace Go.Proofs.YtpbpiehcchannaaGreatDoor

theorem mem_ready' {md : Region.Mode} {ops : Array Oper} {listed : Array Bool} {i : Nat} (h : i ∈ Region.ready md ops listed) :
    i<ops.size∧listed.getD i true=false∧∃o,ops[i]? =some o∧∀e∈o.after,Region.binds md e=true→listed.getD e.on false=true:=by
 unfold Region.ready at h
 obtain⟨h1,h2⟩:=List.mem_filter.1 h
 simp only[Bool.and_eq_true,Bool.not_eq_true'] at h2
 have hi:=List.mem_range.1 h1
 refine⟨hi,h2.1,ops[i],by simp[hi],fun e he hb=> ?_⟩
 have h3:=h2.2
 simp only[Array.getElem?_eq_getElem hi,Option.map_some,Option.getD_some] at h3
 have:=Array.all_eq_true'.1 h3 e he
 simpa [hb] using this

def depB(md:Region.Mode)(ops:Array Oper):Nat→Nat→Nat→Bool
 | 0,_,_=>false
 | f+1,i,j=>match ops[i]? with
  | none=>false
  | some o=>o.after.any fun e=>Region.binds md e&&(e.on==j||depB md ops f e.on j)
def backB(md:Region.Mode)(ops:Array Oper):Bool:=
 (List.range ops.size).all fun i=>match ops[i]? with | none=>true | some o=>o.after.all fun e=> !Region.binds md e||decide (e.on<i)
def distinctB(ops:Array Oper)(n:Nat):Bool:=
 (List.range ops.size).all fun i=>(match(ops[i]?).bind (·.dst) with | none=>true | some d=>decide (d<n))&&
  (List.range ops.size).all fun j=>i==j|| !((ops[i]?).bind (·.dst)).isSome||((ops[i]?).bind (·.dst))!=((ops[j]?).bind (·.dst))

def putL(ops:Array Oper)(listed:Nat→Bool)(vs:Nat→Value):List Nat→Act→Act
 | [],a=>a
 | i::l,a=>putL ops listed vs l (if listed i then a.put ((ops[i]?).bind (·.dst)) (vs i) else a)
theorem put_other(a:Act){x:Option Tmp}{t:Tmp}(v:Value)(h:x≠some t):(a.put x v).tmps.getD t undef=a.tmps.getD t undef:=by
 cases x with
 | none=>rfl
 | some d=>
  have hne:d≠t:=fun e=>h (by rw[e])
  simp[Act.put,Array.getElem?_setIfInBounds_ne hne]
theorem put_same(a:Act){t:Tmp}(v:Value)(h:t<a.tmps.size):(a.put (some t) v).tmps.getD t undef=v:=by
 simp[Act.put,Array.getD,h]
section
variable {P:Program} {ops:Array Oper} {Q:Exit→Act→World→Prop}

structure RSt(ops:Array Oper)(a0:Act)(w0:World)(G:World→World→Prop)(R:Nat→(Nat→Value)→World→Prop)(listed:Array Bool)(a:Act)(w:World):Prop where
 size:listed.size=ops.size
 closed:∀j oj,ops[j]? =some oj→listed.getD j false=true→∀e∈oj.after,Region.binds .any e=true→listed.getD e.on false=true
 st:G w0 w∧∃vs,a=putL ops (fun i=>listed.getD i false) vs (List.range ops.size) a0∧∀j,listed.getD j false=true→R j vs w

theorem RSt.dep {a0 : Act} {w0 : World} {G : World → World → Prop} {R : Nat → (Nat → Value) → World → Prop} {listed : Array Bool} {a : Act} {w : World} (h : RSt ops a0 w0 G R listed a w) :
    ∀(f i j:Nat),listed.getD i false=true→depB .any ops f i j=true→listed.getD j false=true
 | 0,_,_,_,hd=>by simp[depB] at hd
 | f+1,i,j,hi,hd=>by
  unfold depB at hd
  cases ho:ops[i]? with
  | none=>simp[ho] at hd
  | some o=>
   simp only[ho] at hd
   obtain⟨e,he,hb⟩:=Array.any_eq_true'.1 hd
   simp only[Bool.and_eq_true,Bool.or_eq_true,beq_iff_eq] at hb
   have hon:=h.closed i o ho hi e he hb.1
   rcases hb.2 with hj | hj
   ·rw[←hj];exact hon
   ·exact RSt.dep h f e.on j hon hj

theorem yielded_bool{tmps:Array Value}{j:Nat}{d:Tmp}{b:Bool}(hd:(ops[j]?).bind (·.dst)=some d)(hv:tmps.getD d undef= .bool b):yielded ops tmps j=some b:=by
 unfold yielded
 cases ho:ops[j]? with
 | none=>rw[ho] at hd;cases hd
 | some o=>
  rw[ho] at hd
  simp only[Option.bind_some] at hd
  by_cases hlt:d<tmps.size
  ·have:tmps[d]= .bool b:=by simpa [hlt] using hv
   simp[hd,hlt,this]
  ·simp[hlt] at hv;cases hv
theorem yielded_undef{tmps:Array Value}{j:Nat}{d:Tmp}(hd:(ops[j]?).bind (·.dst)=some d)(hv:tmps.getD d undef=undef):yielded ops tmps j=none:=by
 unfold yielded
 cases ho:ops[j]? with
 | none=>rw[ho] at hd;cases hd
 | some o=>
  rw[ho] at hd
  simp only[Option.bind_some] at hd
  by_cases hlt:d<tmps.size
  ·have:tmps[d]=undef:=by simpa [hlt] using hv
   simp[hd,hlt,this,undef]
  ·simp[hd,hlt]
theorem wanted_no{o:Oper}{y:Nat→Option Bool}{j:Nat}{b:Bool}(hg:o.guard=some (j,b))(hy:y j≠some b):Region.wanted o y=false:=by
 unfold Region.wanted;simp only[hg];simpa using hy
theorem wanted_yes{o:Oper}{y:Nat→Option Bool}{j:Nat}{b:Bool}(hg:o.guard=some (j,b))(hy:y j=some b):Region.wanted o y=true:=by
 unfold Region.wanted;simp only[hg];simpa using hy

end
end Go.Proofs.YtpbpiehcchannaaGreatDoor
