/- From arguments to abstract values. Conditions: none. -/
import Derived.DeepKeys4
import Derived.Maps.Keyed
import Derived.ProofKit
import Derived.OpenShut
import Derived.ShutString
import Derived.ChangeOld
import Derived.Test.YtpbpiehcchannaaGreatDoorJAc
import Derived.Deep.Slices
import Derived.Test.YtpbpiehcchannaaGreatDoorRows
namespace Go.Proofs.YtpbpiehcchannaaGreatDoor
set_option linter.unusedVariables false
open Go.RowKit

section
variable {P:Program}
end

open Go.ChangeShapes Go.WideShapes Go.ChangeAt
open Go.ChangeMaps (open_string shut_string)
theorem By:∀(l:List Value),(∀i,i<l.length→∃b:UInt8,l[i]? =some (bv b))→∃g,l=df g
 | [],_=>⟨[],rfl⟩
 | x::l,h=>by
  obtain⟨b,hb⟩:=h 0 (by simp)
  obtain⟨g,hg⟩:=By l (fun i hi=>by have:=h (i+1) (by simpa using hi);simpa using this)
  refine⟨b::g,?_⟩
  simp only[List.getElem?_cons_zero,Option.some.injEq] at hb
  rw[hb,hg];rfl
theorem Gg{n:Int}(h:(Lit.int .u8 n).wf=true):∃b:UInt8,(.int .u8 n:Value)=bv b:=by
 have hb:=bounds_u8 h
 refine⟨UInt8.ofNat n.toNat,?_⟩
 unfold bv
 have:(UInt8.ofNat n.toNat).toNat=n.toNat:=by simp;omega
 rw[this]
 congr 1;omega
section
variable {H:Type} {enc:TypeId×Value→H} {P:Program} {w:World} {base:Nat} {spare:Nat→Bool} {held:Bool}
end

section
variable {P:Program}
theorem MD {f : FuncId} {args : List AV} {u : Value} (S : Spec P f args [] (ak (.val u) [] [])) {W : World} {cargs : List Value} (h : aq (jy W) W args cargs) (jg : Gl (jy W) W) :
    Calls P f cargs.toArray W fun e W'=>e= .returned u∧Below W.heap.size W W':=by
 have hr:HR (jy W) W []:=⟨by simp,by simp,by simp,by simp,fun z b h=>h.2,by simp,fun r _=>⟨rfl,fun h=>h⟩,jg,by simp⟩
 refine Calls.mono (S W (jy W) cargs hr h) fun e w'⟨v,x,H1,E1,he,⟨tl,hx,_,_⟩,hv,_,_,_,_,_,cM⟩=> ?_
 subst hx
 rw[bq hv] at he
 exact⟨he,cM.os,cM.tape,cM.output,cM.size,fun k hk=>cM.block k hk (fun r e h=>by simp at h)⟩
theorem ME{w:World}{v:Value}{l:List UInt8}(h:BS w v l):ae (jy w) w (.bs 0 l) v:=by
 obtain⟨a,n,c,rfl,hS⟩:=h
 rw[ae]
 refine⟨a,n,c,rfl,hS.n4.symm,hS.le,hS.max,hS.nil,fun i x hx=> ?_⟩
 have hn:0<n:=by
  have:=(List.getElem?_eq_some_iff.1 hx).1
  have:=hS.n4;omega
 obtain⟨b,o,rfl,hc⟩:=hS.addr hn (by decide)
 have h1:=hc i (bv x) (by rw[df,List.getElem?_map,hx];rfl)
 refine⟨b,o,rfl,⟨rfl,?_⟩,h1⟩
 unfold World.cell? at h1
 simp only at h1
 cases hb:w.heap[b]? with
 | none=>simp[hb] at h1
 | some _=>exact(Array.getElem?_eq_some_iff.1 hb).1
def OC(P:Program)(W:World)(H:Type)(enc:TypeId×Value→H)(T:TypeId){α:Type}(ok:α→Prop)(f:α→List AV):Prop:=
 ∀(fuel:Nat)(cs:List Value)(x:DataW H×List MemPlace),DataW.trod enc P W 0 (fun _=>true) true fuel T cs=some x→∃a:α,ok a∧aq (jy W) W (f a) cs
variable {W:World} {H:Type} {enc:TypeId×Value→H}
theorem mr{T:TypeId}{k:IntKind}(hT:P.underlying T=some (.int k)):OC P W H enc T (fun n:Int=>(Lit.int k n).wf=true) (fun n=>[.val (.int k n)]):=by
 intro fuel cs x h
 obtain⟨a,e0,_,wa⟩:=DataW.trod_int hT h
 refine⟨a,wa,?_⟩
 rw[e0]
 simp only[aq,ae]
 exact⟨_,_,rfl,rfl,rfl⟩
theorem MF{T E:TypeId}(hT:P.underlying T=some (.slice E))(hE:P.underlying E=some (.int .u8))(hc:P.cellsOf E=1):OC P W H enc T (fun l:List UInt8=>l.length≤maxLen) (fun l=>[.bs 0 l]):=by
 intro fuel cs x h
 have key:∃v bs,cs=[v]∧BS W v bs:=by
  rcases open_ints hT hE hc h with⟨rfl,_⟩ | ⟨x,n,c',zs,rfl,_,hl,hm,hz,_,cT,Gh⟩
  ·exact⟨_,[],rfl,BS.nil W⟩
  ·have o6:zs.length=c':=by simpa using hz
   obtain⟨bs,rU⟩:=By (zs.map (Value.int .u8)) (fun i hi=>by
    have bP:i<zs.length:=by simpa using hi
    obtain⟨b,hb⟩:=Gg (Gh zs[i] (List.getElem_mem _))
    exact⟨b,by simp[bP,hb]⟩)
   have mu:bs.length=c':=by
    have:=congrArg List.length rU
    simpa [o6] using this.symm
   refine⟨_,bs.take n,rfl,_,_,_,rfl,(by simp[mu];omega),hl,hm,(fun e=>by cases e),fun ad had i u hu=> ?_⟩
   obtain rfl:=Option.some.inj had
   rw[←Ak,List.getElem?_take] at hu
   split at hu
   ·rw[←rU] at hu
    simp only[List.getElem?_map,Option.map_eq_some_iff] at hu
    obtain⟨z,mc,rfl⟩:=hu
    have hi:=(List.getElem?_eq_some_iff.1 mc).1
    rw[cT i hi]
    simp[List.getD,mc]
   ·cases hu
 obtain⟨v,bs,rfl,hb⟩:=key
 have hr:=ME hb
 refine⟨bs,?_,by simp only[aq];exact⟨_,_,rfl,hr,rfl⟩⟩
 obtain⟨a,n,c,rfl,hS⟩:=hb
 have h1:=hS.n4;have h2:=hS.le;have h3:=hS.max
 omega
end

section
variable {P:Program}
variable {W:World} {H:Type} {enc:TypeId×Value→H} {B:Nat}
end
def od(P:Program)(W:World)(H:Type)(enc:TypeId×Value→H)(R:Nat)(T:TypeId){α:Type}(ok:α→Prop)(f:α→List AV):Prop:=
 ∀(fuel:Nat)(cs:List Value)(x:DataW H×List MemPlace),DataW.trod enc P W 0 (fun _=>true) true fuel T cs=some x→(∀n∈x.1.weights P T,n≤R)→∃a:α,ok a∧aq (jy W) W (f a) cs
theorem Gi{P:Program}{H:Type}{E:TypeId}{d:DataW H}:∀{l:List (DataW H)},d∈l→∀n∈d.weights P E,n∈DataW.weightsAll P E l
 | x::l,h,n,hn=>by
  simp only[DataW.weightsAll,List.mem_append]
  rcases List.mem_cons.1 h with rfl | h
  ·exact Or.inl hn
  ·exact Or.inr (Gi h n hn)
section
variable {P:Program} {W:World} {H:Type} {enc:TypeId×Value→H} {R:Nat}
theorem MG{T E:TypeId}(hT:P.underlying T=some (.slice E))(hE:P.underlying E=some (.int .u8))(hc:P.cellsOf E=1)(tB:P.bytesOf E=1):od P W H enc R T (fun l:List UInt8=>l.length≤R) (fun l=>[.bs 0 l]):=by
 intro fuel cs x h hb
 obtain⟨l,_,hr⟩:=MF hT hE hc fuel cs x h
 refine⟨l,?_,hr⟩
 simp only[aq,ae] at hr
 obtain⟨v,vs,rfl,⟨a,n,c,rfl,hn,_⟩,rfl⟩:=hr
 rcases open_ints hT hE hc h with⟨e,_⟩ | ⟨x,n',c',zs,e,_,hl,hm,hz,rfl,cT,Gh⟩
 ·simp only[List.cons.injEq,Value.slice.injEq,and_true] at e
  omega
 ·simp only[List.cons.injEq,Value.slice.injEq,and_true] at e
  simp only[DataW.weights,hT,tB,Nat.mul_one] at hb
  have h1:=hb _ (List.mem_cons_self ..)
  have h2:(lits (H:=H) .u8 (zs.take n')).length=n':=by
   have o6:zs.length=c':=by simpa using hz
   simp[lits,o6];omega
  omega
theorem Gj {T E : TypeId} {sz : Nat} (hT : P.underlying T = some (.slice E)) (hc : P.cellsOf E = sz) (ck : 0 < sz) {α : Type} {ok : α → Prop} {f : α → List AV} (d : α) (hE : od P W H enc R E ok f) :
    od P W H enc R T (fun l:List α=>(l.length≤maxLen∧l.length*P.bytesOf E≤R)∧∀a∈l,ok a) (fun l=>[.sl 0 sz f d l]):=by
 intro fuel cs x h hb
 rcases Go.Deep.open_slice hT h with⟨rfl,_⟩ | ⟨a,len,cap,m,n,D,Pl,rfl,_,hl,hm,Gk,lJ,hx⟩
 ·refine⟨[],⟨⟨by simp,by simp⟩,by simp⟩,?_⟩
  simp only[aq,ae]
  exact⟨_,_,rfl,⟨none,0,0,rfl,rfl,Nat.le_refl _,Nat.zero_le _,fun _=>rfl,by simp⟩,rfl⟩
 ·simp only[if_true] at Gk
  subst Gk
  rw[lJ] at hb
  simp only[DataW.weights,hT] at hb
  have MH:len*P.bytesOf E≤R:=by
   have h0:=hb _ (List.mem_cons_self ..)
   simp only[List.length_map,List.length_range] at h0
   exact Nat.le_trans (Nat.mul_le_mul_right _ (Nat.le_add_right _ _)) h0
  have MI:∀i,i<len→∀n∈(D i).weights P E,n≤R:=fun i hi n hn=>
   hb n (List.mem_cons_of_mem _ (List.mem_append_left _ (Gi (List.mem_map.2 ⟨i,List.mem_range.2 hi,rfl⟩) n hn)))
  rw[hc] at hx
  have each:∀i,i<len→∃y:α,ok y∧∃iV:List Value,iV.length=sz∧aq (jy W) W (f y) iV∧∀j u,iV[j]? =some u→W.cell? ((a.add (i*sz)).add j)=some u:=by
   intro i hi
   obtain⟨iV,h1,h2⟩:=hx i (by omega)
   obtain⟨y,h3,h4⟩:=hE n iV _ h2 (MI i hi)
   obtain⟨h5,h6,h7⟩:=World.cells?_some h1
   exact⟨y,h3,iV,by omega,h4,fun j u hu=>by
    have hj:=(List.getElem?_eq_some_iff.1 hu).1
    rw[h7 j (by omega)];exact hu⟩
  have build:∀k,k≤len→∃l:List α,l.length=k∧∀i y,l[i]? =some y→ok y∧∃iV:List Value,iV.length=sz∧aq (jy W) W (f y) iV∧∀j u,iV[j]? =some u→W.cell? ((a.add (i*sz)).add j)=some u:=by
   intro k
   induction k with
   | zero=>intro _;exact⟨[],rfl,by simp⟩
   | succ k ih=>
    intro hk
    obtain⟨l,h1,h2⟩:=ih (by omega)
    obtain⟨y,hy⟩:=each k hk
    refine⟨l++[y],by simp[h1],fun i z hz=> ?_⟩
    rw[List.getElem?_append] at hz
    split at hz
    ·exact h2 i z hz
    ·rename_i hi
     have:i=k:=by
      have:=(List.getElem?_eq_some_iff.1 hz).1
      simp at this;omega
     subst this
     simp[h1] at hz
     subst hz
     exact hy
  obtain⟨l,h1,h2⟩:=build len (Nat.le_refl _)
  refine⟨l,⟨⟨by omega,by rw[h1];exact MH⟩,fun y hy=> ?_⟩,?_⟩
  ·obtain⟨i,hi,rfl⟩:=List.getElem_of_mem hy
   exact(h2 i _ (List.getElem?_eq_getElem hi)).1
  ·simp only[aq,ae]
   refine⟨_,_,rfl,⟨some a,len,_,rfl,h1.symm,hl,hm,(fun e=>by cases e),fun i y hy=> ?_⟩,rfl⟩
   obtain⟨_,iV,h3,h4,h5⟩:=h2 i y hy
   have h0:=h5 0 _ (List.getElem?_eq_getElem (by omega))
   have hi:=(List.getElem?_eq_some_iff.1 hy).1
   obtain⟨_,KW,g3,g4,g5⟩:=h2 0 _ (List.getElem?_eq_getElem (by omega))
   have g0:=g5 0 _ (List.getElem?_eq_getElem (by omega))
   rw[Nat.zero_mul,show(a.add 0).add 0=a by simp[Addr.add]] at g0
   have Bz:a.spot=none:=by
    unfold World.cell? at g0
    cases hs:a.spot with
    | none=>rfl
    | some k=>
     simp only[hs,Option.isSome_some,if_true] at g0
     split at g0<;>cases g0
   clear g0 g5 g4
   obtain⟨b,o,sp⟩:=a
   simp only at Bz
   subst Bz
   simp only[Addr.add_lit] at h5 h0
   refine⟨b,o,iV,rfl,⟨rfl,?_⟩,h3,h4,h5⟩
   unfold World.cell? at h0
   simp only at h0
   cases hb:W.heap[b]? with
   | none=>simp[hb] at h0
   | some _=>exact(Array.getElem?_eq_some_iff.1 hb).1
end
end Go.Proofs.YtpbpiehcchannaaGreatDoor
