/- From arguments to abstract values. Conditions: none. -/
import Derived.Test.YtpbpiehcchannaaGreatDoorJHb
import Derived.DeepKeys4
import Derived.Maps.Keyed
import Derived.ProofKit
import Derived.OpenShut
import Derived.ShutString
import Derived.ChangeOld
import Derived.Test.YtpbpiehcchannaaGreatDoorJAc
import Derived.Deep.Slices
import Derived.Test.YtpbpiehcchannaaGreatDoorRows
/-! Equality of arrays of bytes (guids), and of structs of a string and such an array, as map keys. Conditions: the premises of each law. -/
namespace Go.Proofs.YtpbpiehcchannaaGreatDoor
open Go.RowKit

section
variable {P:Program}
end
end Go.Proofs.YtpbpiehcchannaaGreatDoor

/-! Openers for a law's arguments: byte slices, arrays of bytes. Conditions: the premises of each. -/
namespace Go.Proofs.YtpbpiehcchannaaGreatDoor
open Go.ChangeShapes Go.WideShapes Go.ChangeAt Go.RowKit
open Go.ChangeMaps (open_string shut_string)
theorem bvs_of_all:∀(l:List Value),(∀i,i<l.length→∃b:UInt8,l[i]? =some (bv b))→∃g,l=bvs g
 | [],_=>⟨[],rfl⟩
 | x::l,h=>by
  obtain⟨b,hb⟩:=h 0 (by simp)
  obtain⟨g,hg⟩:=bvs_of_all l (fun i hi=>by have:=h (i+1) (by simpa using hi);simpa using this)
  refine⟨b::g,?_⟩
  simp only[List.getElem?_cons_zero,Option.some.injEq] at hb
  rw[hb,hg];rfl
theorem bv_of_wf{n:Int}(h:(Lit.int .u8 n).wf=true):∃b:UInt8,(.int .u8 n:Value)=bv b:=by
 have hb:=bounds_u8 h
 refine⟨UInt8.ofNat n.toNat,?_⟩
 unfold bv
 have:(UInt8.ofNat n.toNat).toNat=n.toNat:=by simp;omega
 rw[this]
 congr 1;omega
section
variable {H:Type} {enc:TypeId×Value→H} {P:Program} {w:World} {base:Nat} {spare:Nat→Bool} {held:Bool}
end
end Go.Proofs.YtpbpiehcchannaaGreatDoor

/-! From a statement's arguments to abstract values, and from what is known of a function to the statement's answer. Conditions: none. -/
namespace Go.Proofs.YtpbpiehcchannaaGreatDoor
open Go.RowKit Go.ChangeShapes Go.WideShapes Go.ChangeAt
set_option linter.unusedVariables false
section
variable {P:Program}
theorem join_val {f : FuncId} {args : List AV} {u : Value} (S : Spec P f args [] (pms (.val u) [] [])) {W : World} {cargs : List Value} (h : reps (env0 W) W args cargs) (hgl : Gl (env0 W) W) :
    Calls P f cargs.toArray W fun e W'=>e= .returned u∧Below W.heap.size W W':=by
 have hr:HR (env0 W) W []:=⟨by simp,by simp,by simp,by simp,fun z b h=>h.2,by simp,fun r _=>⟨rfl,fun h=>h⟩,hgl,by simp⟩
 refine Calls.mono (S W (env0 W) cargs hr h) fun e w'⟨v,x,H1,E1,he,⟨tl,hx,_,_⟩,hv,_,_,_,_,_,hfr⟩=> ?_
 subst hx
 rw[rep_val hv] at he
 exact⟨he,hfr.os,hfr.tape,hfr.output,hfr.size,fun k hk=>hfr.block k hk (fun r e h=>by simp at h)⟩
theorem bs_env0{w:World}{v:Value}{l:List UInt8}(h:BS w v l):rep (env0 w) w (.bs 0 l) v:=by
 obtain⟨a,n,c,rfl,hS⟩:=h
 rw[rep]
 refine⟨a,n,c,rfl,hS.len1.symm,hS.le,hS.max,hS.nil,fun i x hx=> ?_⟩
 have hn:0<n:=by
  have:=(List.getElem?_eq_some_iff.1 hx).1
  have:=hS.len1;omega
 obtain⟨b,o,rfl,hc⟩:=hS.addr hn (by decide)
 have h1:=hc i (bv x) (by rw[bvs,List.getElem?_map,hx];rfl)
 refine⟨b,o,rfl,⟨rfl,?_⟩,h1⟩
 unfold World.cell? at h1
 simp only at h1
 cases hb:w.heap[b]? with
 | none=>simp[hb] at h1
 | some _=>exact(Array.getElem?_eq_some_iff.1 hb).1
def OC(P:Program)(W:World)(H:Type)(enc:TypeId×Value→H)(T:TypeId){α:Type}(ok:α→Prop)(f:α→List AV):Prop:=
 ∀(fuel:Nat)(cs:List Value)(x:DataW H×List MemPlace),DataW.trod enc P W 0 (fun _=>true) true fuel T cs=some x→∃a:α,ok a∧reps (env0 W) W (f a) cs
variable {W:World} {H:Type} {enc:TypeId×Value→H}
theorem oc_int{T:TypeId}{k:IntKind}(hT:P.underlying T=some (.int k)):OC P W H enc T (fun n:Int=>(Lit.int k n).wf=true) (fun n=>[.val (.int k n)]):=by
 intro fuel cs x h
 obtain⟨a,e0,_,wa⟩:=DataW.trod_int hT h
 refine⟨a,wa,?_⟩
 rw[e0]
 simp only[reps,rep]
 exact⟨_,_,rfl,rfl,rfl⟩
theorem oc_bytes{T E:TypeId}(hT:P.underlying T=some (.slice E))(hE:P.underlying E=some (.int .u8))(hc:P.cellsOf E=1):OC P W H enc T (fun l:List UInt8=>l.length≤maxLen) (fun l=>[.bs 0 l]):=by
 intro fuel cs x h
 have key:∃v bs,cs=[v]∧BS W v bs:=by
  rcases open_ints hT hE hc h with⟨rfl,_⟩ | ⟨x,n,c',zs,rfl,_,hl,hm,hz,_,hcell,hwz⟩
  ·exact⟨_,[],rfl,BS.nil W⟩
  ·have hz':zs.length=c':=by simpa using hz
   obtain⟨bs,hbs⟩:=bvs_of_all (zs.map (Value.int .u8)) (fun i hi=>by
    have hi':i<zs.length:=by simpa using hi
    obtain⟨b,hb⟩:=bv_of_wf (hwz zs[i] (List.getElem_mem _))
    exact⟨b,by simp[hi',hb]⟩)
   have hbl:bs.length=c':=by
    have:=congrArg List.length hbs
    simpa [hz'] using this.symm
   refine⟨_,bs.take n,rfl,_,_,_,rfl,(by simp[hbl];omega),hl,hm,(fun e=>by cases e),fun ad had i u hu=> ?_⟩
   obtain rfl:=Option.some.inj had
   rw[←bvs_take,List.getElem?_take] at hu
   split at hu
   ·rw[←hbs] at hu
    simp only[List.getElem?_map,Option.map_eq_some_iff] at hu
    obtain⟨z,hz1,rfl⟩:=hu
    have hi:=(List.getElem?_eq_some_iff.1 hz1).1
    rw[hcell i hi]
    simp[List.getD,hz1]
   ·cases hu
 obtain⟨v,bs,rfl,hb⟩:=key
 have hr:=bs_env0 hb
 refine⟨bs,?_,by simp only[reps];exact⟨_,_,rfl,hr,rfl⟩⟩
 obtain⟨a,n,c,rfl,hS⟩:=hb
 have h1:=hS.len1;have h2:=hS.le;have h3:=hS.max
 omega
end
end Go.Proofs.YtpbpiehcchannaaGreatDoor

/-! As in Av27, where what is read is of bulk at most B. Conditions: none. -/
namespace Go.Proofs.YtpbpiehcchannaaGreatDoor
open Go.RowKit Go.ChangeShapes Go.WideShapes Go.ChangeAt
set_option linter.unusedVariables false
section
variable {P:Program}
variable {W:World} {H:Type} {enc:TypeId×Value→H} {B:Nat}
end
def OCR(P:Program)(W:World)(H:Type)(enc:TypeId×Value→H)(R:Nat)(T:TypeId){α:Type}(ok:α→Prop)(f:α→List AV):Prop:=
 ∀(fuel:Nat)(cs:List Value)(x:DataW H×List MemPlace),DataW.trod enc P W 0 (fun _=>true) true fuel T cs=some x→(∀n∈x.1.weights P T,n≤R)→∃a:α,ok a∧reps (env0 W) W (f a) cs
theorem weightsAll_mem{P:Program}{H:Type}{E:TypeId}{d:DataW H}:∀{l:List (DataW H)},d∈l→∀n∈d.weights P E,n∈DataW.weightsAll P E l
 | x::l,h,n,hn=>by
  simp only[DataW.weightsAll,List.mem_append]
  rcases List.mem_cons.1 h with rfl | h
  ·exact Or.inl hn
  ·exact Or.inr (weightsAll_mem h n hn)
section
variable {P:Program} {W:World} {H:Type} {enc:TypeId×Value→H} {R:Nat}
theorem ocr_bytes{T E:TypeId}(hT:P.underlying T=some (.slice E))(hE:P.underlying E=some (.int .u8))(hc:P.cellsOf E=1)(hby:P.bytesOf E=1):OCR P W H enc R T (fun l:List UInt8=>l.length≤R) (fun l=>[.bs 0 l]):=by
 intro fuel cs x h hb
 obtain⟨l,_,hr⟩:=oc_bytes hT hE hc fuel cs x h
 refine⟨l,?_,hr⟩
 simp only[reps,rep] at hr
 obtain⟨v,vs,rfl,⟨a,n,c,rfl,hn,_⟩,rfl⟩:=hr
 rcases open_ints hT hE hc h with⟨e,_⟩ | ⟨x,n',c',zs,e,_,hl,hm,hz,rfl,hcell,hwz⟩
 ·simp only[List.cons.injEq,Value.slice.injEq,and_true] at e
  omega
 ·simp only[List.cons.injEq,Value.slice.injEq,and_true] at e
  simp only[DataW.weights,hT,hby,Nat.mul_one] at hb
  have h1:=hb _ (List.mem_cons_self ..)
  have h2:(lits (H:=H) .u8 (zs.take n')).length=n':=by
   have hz':zs.length=c':=by simpa using hz
   simp[lits,hz'];omega
  omega
theorem ocr_slice {T E : TypeId} {sz : Nat} (hT : P.underlying T = some (.slice E)) (hc : P.cellsOf E = sz) (hsz : 0 < sz) {α : Type} {ok : α → Prop} {f : α → List AV} (d : α) (hE : OCR P W H enc R E ok f) :
    OCR P W H enc R T (fun l:List α=>(l.length≤maxLen∧l.length*P.bytesOf E≤R)∧∀a∈l,ok a) (fun l=>[.sl 0 sz f d l]):=by
 intro fuel cs x h hb
 rcases Go.Deep.open_slice hT h with⟨rfl,_⟩ | ⟨a,len,cap,m,n,D,Pl,rfl,_,hl,hm,hmm,hxe,hx⟩
 ·refine⟨[],⟨⟨by simp,by simp⟩,by simp⟩,?_⟩
  simp only[reps,rep]
  exact⟨_,_,rfl,⟨none,0,0,rfl,rfl,Nat.le_refl _,Nat.zero_le _,fun _=>rfl,by simp⟩,rfl⟩
 ·simp only[if_true] at hmm
  subst hmm
  rw[hxe] at hb
  simp only[DataW.weights,hT] at hb
  have hlenB:len*P.bytesOf E≤R:=by
   have h0:=hb _ (List.mem_cons_self ..)
   simp only[List.length_map,List.length_range] at h0
   exact Nat.le_trans (Nat.mul_le_mul_right _ (Nat.le_add_right _ _)) h0
  have hDB:∀i,i<len→∀n∈(D i).weights P E,n≤R:=fun i hi n hn=>
   hb n (List.mem_cons_of_mem _ (List.mem_append_left _ (weightsAll_mem (List.mem_map.2 ⟨i,List.mem_range.2 hi,rfl⟩) n hn)))
  rw[hc] at hx
  have each:∀i,i<len→∃y:α,ok y∧∃cs':List Value,cs'.length=sz∧reps (env0 W) W (f y) cs'∧∀j u,cs'[j]? =some u→W.cell? ((a.add (i*sz)).add j)=some u:=by
   intro i hi
   obtain⟨cs',h1,h2⟩:=hx i (by omega)
   obtain⟨y,h3,h4⟩:=hE n cs' _ h2 (hDB i hi)
   obtain⟨h5,h6,h7⟩:=World.cells?_some h1
   exact⟨y,h3,cs',by omega,h4,fun j u hu=>by
    have hj:=(List.getElem?_eq_some_iff.1 hu).1
    rw[h7 j (by omega)];exact hu⟩
  have build:∀k,k≤len→∃l:List α,l.length=k∧∀i y,l[i]? =some y→ok y∧∃cs':List Value,cs'.length=sz∧reps (env0 W) W (f y) cs'∧∀j u,cs'[j]? =some u→W.cell? ((a.add (i*sz)).add j)=some u:=by
   intro k
   induction k with
   | zero=>intro _;exact⟨[],rfl,by simp⟩
   | succ k ih=>
    intro hk
    obtain⟨l,h1,h2⟩:=ih (by omega)
    obtain⟨y,hy⟩:=each k hk
    refine⟨l++[y],by simp[h1],fun i z hz=> ?_⟩
    rw[List.getElem?_append] at hz
    split at hz
    ·exact h2 i z hz
    ·rename_i hi
     have:i=k:=by
      have:=(List.getElem?_eq_some_iff.1 hz).1
      simp at this;omega
     subst this
     simp[h1] at hz
     subst hz
     exact hy
  obtain⟨l,h1,h2⟩:=build len (Nat.le_refl _)
  refine⟨l,⟨⟨by omega,by rw[h1];exact hlenB⟩,fun y hy=> ?_⟩,?_⟩
  ·obtain⟨i,hi,rfl⟩:=List.getElem_of_mem hy
   exact(h2 i _ (List.getElem?_eq_getElem hi)).1
  ·simp only[reps,rep]
   refine⟨_,_,rfl,⟨some a,len,_,rfl,h1.symm,hl,hm,(fun e=>by cases e),fun i y hy=> ?_⟩,rfl⟩
   obtain⟨_,cs',h3,h4,h5⟩:=h2 i y hy
   have h0:=h5 0 _ (List.getElem?_eq_getElem (by omega))
   have hi:=(List.getElem?_eq_some_iff.1 hy).1
   obtain⟨_,cs0,g3,g4,g5⟩:=h2 0 _ (List.getElem?_eq_getElem (by omega))
   have g0:=g5 0 _ (List.getElem?_eq_getElem (by omega))
   rw[Nat.zero_mul,show(a.add 0).add 0=a by simp[Addr.add]] at g0
   have hsp:a.spot=none:=by
    unfold World.cell? at g0
    cases hs:a.spot with
    | none=>rfl
    | some k=>
     simp only[hs,Option.isSome_some,if_true] at g0
     split at g0<;>cases g0
   clear g0 g5 g4
   obtain⟨b,o,sp⟩:=a
   simp only at hsp
   subst hsp
   simp only[Addr.add_lit] at h5 h0
   refine⟨b,o,cs',rfl,⟨rfl,?_⟩,h3,h4,h5⟩
   unfold World.cell? at h0
   simp only at h0
   cases hb:W.heap[b]? with
   | none=>simp[hb] at h0
   | some _=>exact(Array.getElem?_eq_some_iff.1 hb).1
end
end Go.Proofs.YtpbpiehcchannaaGreatDoor
