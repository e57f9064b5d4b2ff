/- A law for a region that draws its order: each operation is walked once, under what the operations that it waits for have left; what it leaves must be stable under what the others may do (a preorder G on worlds). Then the region comes to its end in every order. Conditions: the premises of 'wp_region_rg'. -/
import Derived.Orders
import Derived.Tactics
namespace Go.Proofs.YtpbpiehcchannaaGreatDoor

theorem FC {md : Region.Mode} {ops : Array Oper} {listed : Array Bool} {i : Nat} (h : i ∈ Region.ready md ops listed) :
    i<ops.size∧listed.getD i true=false∧∃o,ops[i]? =some o∧∀e∈o.after,Region.binds md e=true→listed.getD e.on false=true:=by
 unfold Region.ready at h
 obtain⟨h1,h2⟩:=List.mem_filter.1 h
 simp only[Bool.and_eq_true,Bool.not_eq_true'] at h2
 have hi:=List.mem_range.1 h1
 refine⟨hi,h2.1,ops[i],by simp[hi],fun e he hb=> ?_⟩
 have h3:=h2.2
 simp only[Array.getElem?_eq_getElem hi,Option.map_some,Option.getD_some] at h3
 have:=Array.all_eq_true'.1 h3 e he
 simpa [hb] using this

def LZ(md:Region.Mode)(ops:Array Oper):Bool:=
 (List.range ops.size).all fun i=>match ops[i]? with | none=>true | some o=>o.after.all fun e=> !Region.binds md e||decide (e.on<i)
def L0(ops:Array Oper)(n:Nat):Bool:=
 (List.range ops.size).all fun i=>(match(ops[i]?).bind (·.dst) with | none=>true | some d=>decide (d<n))&&
  (List.range ops.size).all fun j=>i==j|| !((ops[i]?).bind (·.dst)).isSome||((ops[i]?).bind (·.dst))!=((ops[j]?).bind (·.dst))

theorem Lq(a:Act){x:Option Tmp}{t:Tmp}(v:Value)(h:x≠some t):(a.put x v).tmps.getD t undef=a.tmps.getD t undef:=by
 cases x with
 | none=>rfl
 | some d=>
  have aG:d≠t:=fun e=>h (by rw[e])
  simp[Act.put,Array.getElem?_setIfInBounds_ne aG]
theorem Af(a:Act){t:Tmp}(v:Value)(h:t<a.tmps.size):(a.put (some t) v).tmps.getD t undef=v:=by
 simp[Act.put,Array.getD,h]
section
variable {P:Program} {ops:Array Oper} {Q:Exit→Act→World→Prop}

theorem xf{tmps:Array Value}{j:Nat}{d:Tmp}{b:Bool}(hd:(ops[j]?).bind (·.dst)=some d)(hv:tmps.getD d undef= .bool b):yielded ops tmps j=some b:=by
 unfold yielded
 cases ho:ops[j]? with
 | none=>rw[ho] at hd;cases hd
 | some o=>
  rw[ho] at hd
  simp only[Option.bind_some] at hd
  by_cases ah:d<tmps.size
  ·have:tmps[d]= .bool b:=by simpa [ah] using hv
   simp[hd,ah,this]
  ·simp[ah] at hv;cases hv
theorem xh{tmps:Array Value}{j:Nat}{d:Tmp}(hd:(ops[j]?).bind (·.dst)=some d)(hv:tmps.getD d undef=undef):yielded ops tmps j=none:=by
 unfold yielded
 cases ho:ops[j]? with
 | none=>rw[ho] at hd;cases hd
 | some o=>
  rw[ho] at hd
  simp only[Option.bind_some] at hd
  by_cases ah:d<tmps.size
  ·have:tmps[d]=undef:=by simpa [ah] using hv
   simp[hd,ah,this,undef]
  ·simp[hd,ah]
theorem oS{o:Oper}{y:Nat→Option Bool}{j:Nat}{b:Bool}(hg:o.guard=some (j,b))(hy:y j≠some b):Region.wanted o y=false:=by
 unfold Region.wanted;simp only[hg];simpa using hy
theorem xg{o:Oper}{y:Nat→Option Bool}{j:Nat}{b:Bool}(hg:o.guard=some (j,b))(hy:y j=some b):Region.wanted o y=true:=by
 unfold Region.wanted;simp only[hg];simpa using hy

end
end Go.Proofs.YtpbpiehcchannaaGreatDoor
