/- Base laws for the walks of this seat: slices that read as lists (Sl), rows that the call owns and appends to (Own), worlds that differ in named blocks (Ch), and the walk's laws for append, slicing and conversions over them. Conditions: none beyond each law's own premises. The package variables that are laid: crc.table. Conditions: the premises of each law. -/
import Derived.WalkKit
import Derived.WalkLawsBesides
import Derived.WalkSpells
import Derived.Lib.ConvBytes
import Derived.Deep.AppendSrc
import Derived.StillTail
namespace Go.Proofs.YtpbpiehcchannaaGreatDoor
open Go.RowKit

def bv(b:UInt8):Value:= .int .u8 b.toNat
def df(l:List UInt8):List Value:=l.map bv
@[simp] theorem kv (l:List UInt8):(df l).length=l.length:=by simp[df]
theorem Ak(l:List UInt8)(n:Nat):(df l).take n=df (l.take n):=by simp[df,List.map_take]
theorem Al(l:List UInt8):∀u∈df l,u.oneCell'=true:=by
 intro u hu;obtain⟨_,_,rfl⟩:=List.mem_map.1 hu;rfl
theorem HC(a:Addr)(m:Nat):(a.add m).block=a.block:=by
 unfold Addr.add;split<;>rfl

structure Ch(w w':World)(S:Nat→Prop):Prop where
 os:w'.os=w.os
 tape:w'.tape=w.tape
 output:w'.output=w.output
 size:w.heap.size≤w'.heap.size
 block:∀k,k<w.heap.size→¬S k→w'.heap[k]? =w.heap[k]?
theorem Ch.refl(w:World)(S:Nat→Prop):Ch w w S:=⟨rfl,rfl,rfl,Nat.le_refl _,fun _ _ _=>rfl⟩
theorem Ch.trans{a b c:World}{S S':Nat→Prop}(h:Ch a b S)(k:Ch b c S')(hS:∀i,i<a.heap.size→S' i→S i):Ch a c S:=
 ⟨k.os.trans h.os,k.tape.trans h.tape,k.output.trans h.output,Nat.le_trans h.size k.size,fun i hi hn=>
  (k.block i (Nat.lt_of_lt_of_le hi h.size) (fun e=>hn (hS i hi e))).trans (h.block i hi hn)⟩
theorem Ch.setCell{a w:World}{S:Nat→Prop}(h:Ch a w S){p:Addr}(hp:p.block<a.heap.size→S p.block)(u:Value):Ch a (w.setCell p u) S:=
 h.trans (S':=fun k=>k=p.block) ⟨rfl,rfl,rfl,by simp,fun k _ hn=>Below.heap_setCell _ _ _ _ hn⟩ (fun i hi e=>by subst e;exact hp hi)
structure jk(w:World)(sz:Nat)(a:Option Addr)(n c:Nat)(xs:List Value):Prop where
 len:xs.length=n*sz
 le:n≤c
 max:c≤maxLen
 nil:a=none→c=0
 cell:∀ad,a=some ad→∀i u,xs[i]? =some u→w.cell? (ad.add i)=some u
def Sl(w:World)(sz:Nat)(v:Value)(xs:List Value):Prop:=∃a n c,v= .slice a n c∧jk w sz a n c xs
def BS(w:World)(v:Value)(bs:List UInt8):Prop:=Sl w 1 v (df bs)
theorem jk.keep {w w' : World} {sz : Nat} {a : Option Addr} {n c : Nat} {xs : List Value} (h : jk w sz a n c xs)
    (hb:∀ad,a=some ad→ad.block<w.heap.size→w'.heap[ad.block]? =w.heap[ad.block]?):jk w' sz a n c xs:=
 ⟨h.len,h.le,h.max,h.nil,fun ad had i u hu=>by
  have hc:=h.cell ad had i u hu
  have ah:=World.block_lt_of_cell? _ _ hc
  rw[HC] at ah
  exact(World.cell?_of_block (w:=w) (a:=ad.add i) (by rw[HC];exact hb ad had ah)).trans hc⟩
theorem Sl.nil(w:World)(sz:Nat):Sl w sz (.slice none 0 0) []:=⟨none,0,0,rfl,by simp,Nat.le_refl _,Nat.zero_le _,fun _=>rfl,fun _ h=>by cases h⟩
theorem BS.nil(w:World):BS w (.slice none 0 0) []:=Sl.nil w 1
theorem jk.n4{w:World}{a:Option Addr}{n c:Nat}{bs:List UInt8}(h:jk w 1 a n c (df bs)):bs.length=n:=by have:=h.len;simpa using this
theorem jk.addr {w : World} {sz : Nat} {a : Option Addr} {n c : Nat} {xs : List Value} (h : jk w sz a n c xs) (hn : 0 < n) (hs : 0 < sz) :
    ∃b o,a=some ⟨b,o,none⟩∧∀i u,xs[i]? =some u→w.cell? ⟨b,o+i,none⟩=some u:=by
 have hl:0<xs.length:=by rw[h.len];exact Nat.mul_pos hn hs
 cases a with
 | none=>have:=h.nil rfl;have:=h.le;omega
 | some ad=>
  have h0:=h.cell ad rfl 0 _ (List.getElem?_eq_getElem hl)
  have Bz:ad.spot=none:=by
   unfold World.cell? at h0
   have e0:ad.add 0=ad:=by simp[Addr.add]
   rw[e0] at h0
   cases hs:ad.spot with
   | none=>rfl
   | some k=>
    simp only[hs,Option.isSome_some,if_true] at h0
    split at h0<;>cases h0
  refine⟨ad.block,ad.off,by cases ad;simp_all,fun i u hu=> ?_⟩
  have:=h.cell ad rfl i u hu
  have e:ad.add i=⟨ad.block,ad.off+i,none⟩:=by
   unfold Addr.add;split
   ·cases ad;simp_all
   ·rfl
  rwa [e] at this
def iK(w:World)(B:Nat)(sz:Nat)(v:Value)(n:Nat)(xs:List Value):Prop:=
 xs.length=n*sz∧((∃a,v= .slice a 0 0∧n=0)∨
  ∃g cap cur E lo hi,v= .slice (some ⟨g,0,none⟩) n cap∧B≤g∧w.heap[g]? =some (.cells cur E (lo,hi))∧(hi≤lo∨cur.size≤lo)∧n≤cap∧cap≤maxLen∧cur.size=cap*sz∧cur.toList.take (n*sz)=xs)
structure zq(P:Program)(t E:TypeId)(sz bytes:Nat)(z:Value):Prop where
 under:P.underlying t=some (.slice E)
 info:(P.info? E).map (fun i=>(i.zero,i.size,i.bytes))=some (some z,sz,bytes)
 oH:z.cells.size=sz

section
variable {P:Program}
theorem uf{o:Oper}{a:Act}{w w':World}{v:Value}{K:Act→World→Prop}{Q:Exit→Act→World→Prop}(h:(execOp a.eval o).run P w= .ok (.value v) w')(hK:K (a.put o.dst v) w'):o.wp P a w K Q:=by
 unfold Oper.wp;rw[h];exact hK

theorem tI (w : World) (g : Nat) (E : TypeId) (fz : Nat × Nat) : ∀ (vs : List Value) (o : Nat) (cur : Array Value), w.heap[g]? = some (.cells cur E fz) → o + vs.length ≤ cur.size →
    (w.setCells g o vs).heap[g]? =some (.cells (cur.toList.take o++vs++cur.toList.drop (o+vs.length)).toArray E fz):=by
 intro vs
 induction vs generalizing w with
 | nil=>intro o cur hg _;simpa [World.setCells] using hg
 | cons v vs ih=>
  intro o cur hg hle
  simp only[List.length_cons] at hle
  have h1:(w.setCell ⟨g,o,none⟩ v).heap[g]? =some (.cells (cur.setIfInBounds o v) E fz):=by
   simp[World.setCell,Array.getElem?_modify,hg]
  have h2:=ih (w.setCell ⟨g,o,none⟩ v) (o+1) _ h1 (by simp;omega)
  simp only[World.setCells] at h2⊢
  rw[h2]
  congr 2
  apply Array.ext'
  simp only[Array.toList_setIfInBounds,List.length_cons]
  apply List.ext_getElem?
  intro i
  simp only[List.getElem?_append,List.length_append,List.length_take,List.length_set,List.getElem?_take,List.getElem?_drop,List.getElem?_set,List.length_cons,Array.length_toList]
  have hs:cur.toList.length=cur.size:=by simp
  by_cases hi:i<o
  ·have a1:i<min (o+1) cur.size:=by omega
   have a2:i<min o cur.size:=by omega
   have a3:i<min (o+1) cur.size+vs.length:=by omega
   have a4:i<min o cur.size+(vs.length+1):=by omega
   have a5:o≠i:=by omega
   have a6:i<o+1:=by omega
   simp[a1,a2,a3,a4,a5,a6,hi]
  ·by_cases zX:i=o
   ·subst zX
    have a1:i<min (i+1) cur.size:=by omega
    have a3:i<min (i+1) cur.size+vs.length:=by omega
    have a2:¬i<min i cur.size:=by omega
    have a4:i<min i cur.size+(vs.length+1):=by omega
    have a5:i<cur.size:=by omega
    have a6:i - min i cur.size=0:=by omega
    simp[a1,a2,a3,a4,a5,a6]
   ·have e1:min (o+1) cur.size=o+1:=by omega
    have e2:min o cur.size=o:=by omega
    rw[e1,e2]
    by_cases c7:i<o+1+vs.length
    ·have a1:¬i<o+1:=by omega
     have a2:¬i<o:=by omega
     have a4:i<o+(vs.length+1):=by omega
     have a5:i - o=(i - (o+1))+1:=by omega
     simp only[c7,a1,a2,a4,if_true,if_false,a5,List.getElem?_cons_succ]
    ·have a4:¬i<o+(vs.length+1):=by omega
     have a5:¬o=o+1+vs.length+(i - (o+1+vs.length)):=by omega
     simp only[c7,a4,if_false,a5]
     congr 1;omega

theorem foldl_push(ns:List UInt8):∀r:ByteArray,((ns.map fun b=>(b.toNat:Int)).foldl (fun r n=>r.push (UInt8.ofNat n.toNat)) r)=⟨(r.data.toList++ns).toArray⟩:=by
 induction ns with
 | nil=>intro r;simp
 | cons n ns ih=>
  intro r
  simp only[List.map_cons,List.foldl_cons]
  rw[ih]
  congr 1
  apply Array.ext'
  simp[ByteArray.push]
def strOf(bs:List UInt8):ByteArray:=⟨bs.toArray⟩
@[simp] theorem qV (bs:List UInt8):(strOf bs).data=bs.toArray:=rfl
theorem sU(bs:List UInt8):(strOf bs).size=bs.length:=by simp[ByteArray.size,strOf]
theorem lQ(s:ByteArray):strOf s.data.toList=s:=by cases s;rfl
theorem Li {w : World} {S t E : TypeId} (hS : P.underlying S = some .string) (ht : P.underlying t = some (.slice E)) (hE : P.underlying E = some (.int .u8)) {v : Value} {bs : List UInt8} (h : BS w v bs) :
    (convert t S v).run P w= .ok (.string (strOf bs)) w:=by
 obtain⟨a,n,c,rfl,h⟩:=h
 rw[run_convert_bytes_string w t S E a n c ht hE hS]
 cases a with
 | none=>
  have hc:=h.nil rfl
  have hle:=h.le
  have hn:=h.n4
  have:bs=[]:=List.eq_nil_of_length_eq_zero (by omega)
  subst this
  simp[Conv.bytesToString,Sem.run_pure];rfl
 | some ad=>
  have hn:=h.n4
  have hl:(loadCells ad n).run P w= .ok ((bs.map fun b=>(b.toNat:Int)).map (Value.int .u8)).toArray w:=by
   rw[←hn]
   have:=run_loadCells_list (P:=P) w ad (df bs) (fun j u hu=>h.cell ad rfl j u hu)
   simp only[kv] at this
   rw[this]
   congr 2
   simp[df,bv,Function.comp_def]
  rw[run_bytesToString w ad n c _ hl,foldl_push]
  simp[strOf]
structure rF(P:Program)(ty n:Nat):Prop where
 agg:(match P.underlying ty with | some (.struct _) | some (.array _ _)=>true | _=>false)=true
 size:(P.info? ty).map (·.size)=some n
theorem rF.isAgg{ty n:Nat}(T:rF P ty n)(w:World):(isAgg ty).run P w= .ok true w:=by
 have h:=T.agg
 unfold Go.isAgg
 cases hu:P.underlying ty with
 | none=>simp[hu] at h
 | some d=>rw[Sem.run_bind,run_underlying hu w];cases d<;>simp_all
theorem rF.sizeOf{ty n:Nat}(T:rF P ty n)(w:World):(sizeOf ty).run P w= .ok n w:=by
 have h:=T.size
 cases hq:P.info? ty with
 | none=>simp[hq] at h
 | some i=>
  have:i.size=n:=by simpa [hq] using h
  simp[Go.sizeOf,typeInfo,hq,this]
theorem Kh {ty n : Nat} (T : rF P ty n) {w : World} {ad : Addr} {cs : List Value} (hl : cs.length = n) (hc : ∀ j u, cs[j]? = some u → w.cell? (ad.add j) = some u) :
    (loadVar ty ad).run P w= .ok (.agg cs.toArray) w:=by
 have h1:=run_loadCells_list (P:=P) w ad cs hc
 rw[hl] at h1
 simp[loadVar,Sem.run_bind,T.isAgg,T.sizeOf,h1]
theorem rL(g:Nat):∀(vs:List Value)(o:Nat)(w:World),Ch w (w.setCells g o vs) (fun k=>k=g)∧(w.setCells g o vs).heap.size=w.heap.size
 | [],_,w=>⟨Ch.refl _ _,rfl⟩
 | v::vs,o,w=>by
  obtain⟨h1,h2⟩:=rL g vs (o+1) (w.setCell ⟨g,o,none⟩ v)
  exact⟨((Ch.refl w (fun k=>k=g)).setCell (p:=⟨g,o,none⟩) (fun _=>rfl) v).trans h1 (fun _ _ h=>h),h2.trans (by simp)⟩
theorem Eg {ty n : Nat} (hs : ∀ w : World, (sizeOf ty).run P w = .ok n w) {w : World} {g o : Nat} {cur : Array Value} {E : TypeId} {lo hi : Nat} (hg : w.heap[g]? = some (.cells cur E (lo, hi))) (HD : hi ≤ lo ∨ cur.size ≤ lo)
    {v:Value} {cs:List Value} (hv:v.cells.toList=cs) (hl:cs.length=n) (ho:o+n≤cur.size) (h1:∀u∈cs,u.oneCell'=true):
    (storeVar ty ⟨g,o,none⟩ v).run P w= .ok () (w.setCells g o cs):=by
 have cr:=run_storeCells_cells (P:=P) g o cs 0 w (fun j hj=>by rw[cell_of_row w g _ cur E (lo,hi) hg];simp;omega)
  (fun j hj=>by simp[World.frozen?,hg];intro h;rcases HD with h' | h'<;>omega) h1
 have hz:v.cells.size=n:=by rw[←hl,←hv];simp
 simp only[Nat.add_zero] at cr
 simp[storeVar,Sem.run_bind,hs,hz,hv,cr]
def mN(o:Option Value)(d x:Nat):Prop:=(o=none∧x=d)∨∃k,o=some (.int k (x:Int))
theorem wQ {t E : TypeId} {sz bytes : Nat} {z : Value} (T : zq P t E sz bytes z) {a : Option Addr} {n c l h : Nat} {lo hi : Option Value} (hl : mN lo 0 l) (hh : mN hi n h) (h1 : l ≤ h) (h2 : h ≤ c) (w : World) :
    (Instr.sliceAt t (.slice a n c) lo hi none).run P w= .ok (.slice (if c=l then a else a.map (·.add (l*sz))) (h - l) (c - l)) w:=by
 obtain⟨i,bP,hz,ck,tB⟩:=info_parts T.info
 subst ck
 rcases hl with⟨rfl,rfl⟩ | ⟨k,rfl⟩<;>rcases hh with⟨rfl,rfl⟩ | ⟨k',rfl⟩<;>
  simp[Instr.sliceAt,Instr.slice,Instr.sliceBounds,Instr.sliceBound,asIntOf,run_underlying T.under,Sem.run_bind,Go.sizeOf,typeInfo,bP,h1,h2]
theorem Ky{o:Oper}{ρ:Operand→Value}{x:Operand}{w:World}(ho:o.op= .move x){v:Value}(hv:ρ x=v):(execOp ρ o).run P w= .ok (.value v) w:=by
 unfold execOp;simp only[ho,hv,Sem.run_pure]
theorem Kz{o:Oper}{ρ:Operand→Value}{x:Operand}{w:World}(ho:o.op= .assign x){v:Value}(hv:ρ x=v):(execOp ρ o).run P w= .ok (.value v) w:=by
 unfold execOp;simp only[ho,hv,Sem.run_pure]
theorem zi{o:Oper}{ρ:Operand→Value}{x:Operand}{w:World}{ty:TypeId}(ho:o.op= .load ty x){ad:Addr}(hx:ρ x= .pointer (some ad)){v:Value}(hv:(loadVar ty ad).run P w= .ok v w):(execOp ρ o).run P w= .ok (.value v) w:=by
 unfold execOp;simp only[ho,hx,Instr.loadAt,Instr.sureAddr,Sem.run_bind,Sem.run_pure,Result.andThen_ok,hv]
theorem Eh{o:Oper}{ρ:Operand→Value}{x y:Operand}{w w':World}{ty:TypeId}(ho:o.op= .store ty x y){ad:Addr}(hx:ρ x= .pointer (some ad)){v:Value}(hy:ρ y=v)(hv:(storeVar ty ad v).run P w= .ok () w'):(execOp ρ o).run P w= .ok .skip w':=by
 unfold execOp;simp only[ho,hx,hy,Instr.storeAt,Instr.sureAddr,Sem.run_bind,Sem.run_pure,Result.andThen_ok,hv]
theorem Ln{o:Oper}{ρ:Operand→Value}{x:Operand}{w:World}{t E:TypeId}{n m c:Nat}{a:Option Addr}(ho:o.op= .sliceToArrayPointer t x)(hu:P.underlying t=some (.array n E))(hx:ρ x= .slice a m c)(hm:n≤m):(execOp ρ o).run P w= .ok (.value (.pointer a)) w:=by
 unfold execOp
 simp[ho,hx,Instr.arrayAt,Sem.run_bind,run_underlying hu,show¬m<n by omega]
end
def rD:Nat→Option (List Value)
 | 1=>some [.int .u32 0,.int .u32 498536548,.int .u32 997073096,.int .u32 651767980,.int .u32 1994146192,.int .u32 1802195444,.int .u32 1303535960,.int .u32 1342533948,.int .u32 3988292384,.int .u32 4027552580,.int .u32 3604390888,.int .u32 3412177804,.int .u32 2607071920,.int .u32 2262029012,.int .u32 2685067896,.int .u32 3183342108]
 | _=>none
theorem Nb{g:Nat}{cs:List Value}(h:rD g=some cs):cs≠[]:=by
 unfold rD at h
 split at h
 ·cases h;simp
 ·cases h
end Go.Proofs.YtpbpiehcchannaaGreatDoor
