/- What becomes of a bank where the power goes: the plain law. A store whose power goes: the plain law. A store beside the document's map, where the power goes: the plain law. A store whose power is armed, and there again: the plain law. Conditions: the premises of each law. -/
import Derived.Test.YtpbpiehcchannaaGreatDoorJHq
namespace Go.Proofs.YtpbpiehcchannaaGreatDoor
set_option linter.unusedVariables false
set_option linter.unusedSimpArgs false
def rj(T:List UInt8):Prop:=T=List.replicate T.length 255∨T.head? =some 254
theorem rj.ff(m:Nat):rj (List.replicate m 255):= .inl (by rw[List.length_replicate])
theorem rj.head{T:List UInt8}(h:rj T):∀b,T.head? =some b→b=255∨b=254:=fun b hb=>by
 rcases h with h | h
 ·rw[h] at hb;exact .inl (Cy hb)
 ·rw[h] at hb;exact .inr (Option.some.inj hb).symm
theorem rj.clean{T:List UInt8}(h:rj T)(hb:decide (T.head? ≠some 254)=true):T=List.replicate T.length 255:=h.resolve_right (of_decide_eq_true hb)
structure BT(s:U)(a c:Nat)(P H:List UInt8)(l:List Rc)(T Q:List UInt8):Prop where
 iJ:s.l=P++(H++(aF l++(T++Q)))
 P:P.length=a*s.k
 H:H.length=16
 n:16+(aF l).length+T.length=c*s.k
 pl:jG 16 l
 tl:rj T
def jn(x:Int×U)(k:Nat)(A D:U→Prop):Prop:=(x.1=0∧x.2.dd=false∧x.2.k=k∧A x.2)∨(x.1=6∧x.2.dd=true∧x.2.k=k∧D x.2)
theorem jn.mono{x:Int×U}{k:Nat}{A D A' D':U→Prop}(h:jn x k A D)(ha:∀s,A s→A' s)(hd:∀s,D s→D' s):jn x k A' D':=by
 rcases h with⟨h1,h2,h3,h4⟩ | ⟨h1,h2,h3,h4⟩
 ·exact .inl ⟨h1,h2,h3,ha _ h4⟩
 ·exact .inr ⟨h1,h2,h3,hd _ h4⟩
section
variable {s:U} {a c:Nat} {P H:List UInt8} {l l1 l2:List Rc} {d:Rc} {m:Nat} {T Q X:List UInt8} {g:Int}
theorem BI.bt(h:BI s a c P H l m Q):BT s a c P H l (List.replicate m 255) Q:=⟨h.iJ,h.P,h.H,by rw[List.length_replicate];exact h.n,h.pl,.ff m⟩
theorem BT.bi(h:BT s a c P H l (List.replicate m 255) Q)(hd:s.dd=false):BI s a c P H l m Q:=⟨h.iJ,h.P,h.H,by have:=h.n;rw[List.length_replicate] at this;exact this,h.pl,hd⟩
theorem BT.same{s':U}(h:BT s a c P H l T Q)(hl:s'.l=s.l)(hk:s'.k=s.k):BT s' a c P H l T Q:=⟨by rw[hl];exact h.iJ,by rw[hk];exact h.P,h.H,by rw[hk];exact h.n,h.pl,h.tl⟩
theorem BT.scan(h:BT s a c P H l T Q):s.scan a c=(l,16+(aF l).length,decide (T.head? ≠some 254)):=Hm h.iJ h.P h.H h.n h.pl h.tl.head
theorem BT.add (h : BT s a c P H l (List.replicate m 255) Q) (hd : s.dd = false) (ho : qS d) (hl : d.lv = true) (cK : d.at_ = 16 + (aF l).length) (hm : bx d ≤ m) :
    jn (s.add a c d.key d.val) s.k (fun s'=>BT s' a c P H (l++[d]) (List.replicate (m - bx d) 255) Q) (fun s'=>∃T,BT s' a c P H l T Q):=by
 have b:=h.bi hd
 by_cases gp:s.ar≤0∨(bx d+1:Int)<s.ar
 ·obtain⟨s',e,b',k',_⟩:=b.Cz ho hl cK hm gp
  exact .inl ⟨by rw[e],by rw[e];exact b'.dd,by rw[e];exact k',by rw[e];exact b'.bt⟩
 ·have hn:=b.n
  have hH:=b.H
  have hP:=b.P
  obtain⟨y,w,e,hy,hb⟩:=Oy (s:=s) (A:=(a:Int)*s.k+((16+(aF l).length:Nat):Int)) (d:=d) (p:=P++(H++aF l)) (r:=Q) (m:=m) hd (by
   simp only[List.length_append,hH,hP,Int.natCast_add,Int.natCast_mul]) (by rw[b.iJ];simp) hm (by omega) (by omega)
  rw[add_eq ho hd b.scan (by omega),e]
  refine .inr ⟨rfl,rfl,rfl,y,⟨by simp,hP,hH,by rw[hy];exact hn,b.pl,?_⟩⟩
  rcases hb with hb | hb
  ·rw[hb];exact .ff m
  ·exact .inr hb
theorem BT.CB(h:BT s a c P H (l1++d::l2) T Q)(hd:s.dd=false):s.kill a c (l1.length:Int)=s.prog ((P++(H++aF l1)).length:Int) [248]:=by
 obtain⟨h1,h2,h3⟩:=ym h.pl
 unfold U.kill
 rw[hd,if_neg (by simp),h.scan,if_neg (by simp only[List.length_append,List.length_cons];omega)]
 have e:((l1++d::l2).map fun r=>(r.at_:Int)).getD (l1.length:Int).toNat 0=d.at_:=by
  rw[Int.toNat_natCast,List.getD_eq_getElem?_getD,List.map_append,List.getElem?_append_right (by simp)]
  simp
 have e2:((a:Int)*s.k+(d.at_:Int))=((P++(H++aF l1)).length:Int):=by
  rw[h1]
  simp only[List.length_append,h.P,h.H,Int.natCast_add,Int.natCast_mul]
 simp only[e,e2]
theorem BT.vI(h:BT s a c P H (l1++d::l2) T Q):s.l=(P++(H++aF l1))++([if d.lv then 252 else 248]++(bI d.key d.val++(aF l2++(T++Q)))):=by
 rw[h.iJ,pv,pq]
 simp[eN]
theorem BT.kill(h:BT s a c P H (l1++d::l2) T Q)(hd:s.dd=false):jn (s.kill a c (l1.length:Int)) s.k (fun s'=>BT s' a c P H (l1++d.die::l2) T Q) (fun s'=>BT s' a c P H (l1++d::l2) T Q):=by
 rw[h.CB hd]
 by_cases gp:s.ar≤0∨1<s.ar
 ·rw[nB (m:=[248]) (p:=P++(H++aF l1)) (q:=[if d.lv then 252 else 248]) hd rfl rfl h.vI (by simp only[List.length_singleton];omega)]
  have hz:List.zipWith (· &&& ·) [if d.lv then(252:UInt8) else 248] [248]=[248]:=by cases d.lv<;>rfl
  rw[hz,Hn]
  refine .inl ⟨rfl,rfl,rfl,⟨rfl,h.P,h.H,?_,(ym h.pl).2.2,h.tl⟩⟩
  rw[Ho];exact h.n
 ·have Dg:s.ar=1:=by omega
  rw[sP (m:=[248]) (p:=P++(H++aF l1)) (q:=[if d.lv then 252 else 248]) hd rfl rfl h.vI (by omega) (by simp only[List.length_singleton];omega)]
  refine .inr ⟨rfl,rfl,rfl,h.same ?_ rfl⟩
  rw[Dg]
  show(P++(H++aF l1))++([if d.lv then 252 else 248]++(bI d.key d.val++(aF l2++(T++Q))))=_
  rw[←h.vI]
def Raw(X Y:List UInt8):Prop:=Y.length=X.length∧(Y=X∨Y.head? =some 255∨Y[12]? =some 255)
theorem Qn (hd : s.dd = false) (hk : 0 < s.k) (hl : s.l = P ++ (X ++ Q)) (hP : P.length = a * s.k) (hX : X.length = c * s.k) (vU : 64 ≤ c * s.k) (g : Int) :
    jn (s.format a c g) s.k (fun s'=>BT s' a c P (cY g++[255,255,255,255]) [] (List.replicate (c*s.k - 16) 255) Q) (fun s'=>∃Y,s'.l=P++(Y++Q)∧Raw X Y):=by
 by_cases gp:s.ar≤0∨(c:Int)+12<s.ar
 ·rw[Hu (g:=g) hd hk hl hP hX (by omega) gp]
  refine .inl ⟨rfl,rfl,rfl,⟨?_,hP,by simp[jD],?_,trivial,.ff _⟩⟩
  ·show P++(cY g++(List.replicate (c*s.k - 12) 255++Q))=_
   rw[mD (by omega:4≤c*s.k - 12),show c*s.k - 12 - 4=c*s.k - 16 by omega]
   simp[aF,List.replicate_succ]
  ·show 16+(aF []).length+(List.replicate (c*s.k - 16) (255:UInt8)).length=c*s.k
   simp only[aF,List.flatMap_nil,List.length_nil,List.length_replicate];omega
 ·obtain⟨Y,w,e,h1,h2⟩:=OE (g:=g) hd hk hl hP hX (by omega) (by omega) (by omega)
  rw[e]
  exact .inr ⟨rfl,rfl,rfl,Y,rfl,h1,h2⟩
theorem BT.ready(h:BT s a c P (cY g++[255,255,255,255]) l T Q)(hd:s.dd=false):jn (s.prog ((a:Int)*(s.k:Int)+12) [254]) s.k (fun s'=>BT s' a c P (dp g) l T Q) (fun s'=>BT s' a c P (cY g++[255,255,255,255]) l T Q):=by
 have hB:=jD g
 have hA:(a:Int)*(s.k:Int)+12=((P++cY g).length:Int):=by simp only[List.length_append,h.P,hB,Int.natCast_add,Int.natCast_mul];rfl
 have hi:s.l=P++cY g++([255]++([255,255,255]++(aF l++(T++Q)))):=by rw[h.iJ];simp
 by_cases gp:s.ar≤0∨1<s.ar
 ·rw[nB (m:=[254]) (p:=P++cY g) (q:=[255]) (r:=[255,255,255]++(aF l++(T++Q))) hd hA rfl hi (by simp only[List.length_singleton];omega)]
  refine .inl ⟨rfl,rfl,rfl,⟨?_,h.P,qT g,h.n,h.pl,h.tl⟩⟩
  show P++cY g++([255&&&254]++([255,255,255]++(aF l++(T++Q))))=_
  rw[Cw]
  simp[dp]
 ·have Dg:s.ar=1:=by omega
  rw[sP (m:=[254]) (p:=P++cY g) (q:=[255]) (r:=[255,255,255]++(aF l++(T++Q))) hd hA rfl hi (by omega) (by simp only[List.length_singleton];omega)]
  refine .inr ⟨rfl,rfl,rfl,h.same ?_ rfl⟩
  rw[Dg]
  show P++cY g++([255]++([255,255,255]++(aF l++(T++Q))))=_
  rw[←hi]
end
theorem BT.bV {a c : Nat} {P H Q : List UInt8} : ∀ (K : List RK) {s : U} {l : List Rc} {m : Nat}, BT s a c P H l (List.replicate m 255) Q → s.dd = false → (∀ r ∈ K, fJ r) → aP K ≤ m →
    jn (s.bV a c K) s.k (fun s'=>BT s' a c P H (l++jM (16+(aF l).length) K) (List.replicate (m - aP K) 255) Q) (fun s'=>∃l' T,BT s' a c P H l' T Q)
 | [],s,l,m,h,hd,_,_=> .inl ⟨rfl,hd,rfl,by show BT s a c P H (l++[]) _ Q;rw[List.append_nil];exact h⟩
 | r::K,s,l,m,h,hd,hK,hm=>by
  have hr:=hK r (List.mem_cons_self ..)
  simp only[aP] at hm
  have h1:=h.add (d:=⟨r.key,r.val,true,16+(aF l).length⟩) hd ⟨hr.1,hr.2⟩ rfl rfl (by show 12+r.key.length+r.val.length≤m;omega)
  show jn (if(s.add a c r.key r.val).1=0 then(s.add a c r.key r.val).2.bV a c K else s.add a c r.key r.val) s.k _ _
  rcases h1 with⟨e1,d1,k1,b1⟩ | ⟨e1,d1,k1,T,b1⟩
  ·have jd:(s.add a c r.key r.val).1=0:=e1
   have Qo:(s.add a c r.key r.val).2.k=s.k:=k1
   rw[if_pos jd]
   have ih:=BT.bV K b1 d1 (fun x hx=>hK x (List.mem_cons_of_mem _ hx)) (by show aP K≤m - (12+r.key.length+r.val.length);omega)
   have el:(aF (l++[(⟨r.key,r.val,true,16+(aF l).length⟩:Rc)])).length=(aF l).length+(12+r.key.length+r.val.length):=by
    rw[pv,List.length_append]
    show(aF l).length+(aF [(⟨r.key,r.val,true,16+(aF l).length⟩:Rc)]).length=_
    simp only[aF,List.flatMap_cons,List.flatMap_nil,List.append_nil,nA]
    rfl
   rw[List.append_assoc,el] at ih
   have ep:jM (16+(aF l).length) (r::K)=⟨r.key,r.val,true,16+(aF l).length⟩::jM (16+((aF l).length+(12+r.key.length+r.val.length))) K:=by
    rw[jM,Nat.add_assoc]
   have em:m - aP (r::K)=m - bx ⟨r.key,r.val,true,16+(aF l).length⟩ - aP K:=by
    unfold bx;simp only[aP];omega
   rw[ep,em,←Qo]
   exact ih
  ·have jd:(s.add a c r.key r.val).1=6:=e1
   rw[if_neg (by rw[jd];decide)]
   exact .inr ⟨jd,d1,k1,l,T,b1⟩
theorem BT.raw{s:U}{a c:Nat}{P X Q:List UInt8}{g:Int}{l:List Rc}{T:List UInt8}(h:BT s a c P (cY g++[255,255,255,255]) l T Q)(hX:X.length=c*s.k):∃Y,s.l=P++(Y++Q)∧Raw X Y:=by
 have hB:=jD g
 refine⟨(cY g++[255,255,255,255])++(aF l++T),by rw[h.iJ];simp,?_,.inr (.inr ?_)⟩
 ·have:=h.n
  simp only[List.length_append,hB,List.length_cons,List.length_nil];omega
 ·rw[List.append_assoc,List.getElem?_append_right (by omega),hB];rfl
theorem IK {s : U} {a c : Nat} {P X Q : List UInt8} (hd : s.dd = false) (hk : 0 < s.k) (hl : s.l = P ++ (X ++ Q)) (hP : P.length = a * s.k) (hX : X.length = c * s.k) (vU : 64 ≤ c * s.k) (g : Int) (K : List RK) (hK : ∀ r ∈ K, fJ r) (hm : aP K ≤ c * s.k - 16) :
    jn (s.cB a c g K) s.k (fun s'=>BT s' a c P (dp g) (jM 16 K) (List.replicate (c*s.k - 16 - aP K) 255) Q) (fun s'=>∃Y,s'.l=P++(Y++Q)∧Raw X Y):=by
 have h1:=Qn hd hk hl hP hX vU g
 unfold U.cB
 rcases h1 with⟨e1,d1,k1,b1⟩ | ⟨e1,d1,k1,b1⟩
 ·rw[if_pos e1]
  have h2:=BT.bV K b1 d1 hK hm
  rcases h2 with⟨e2,d2,k2,b2⟩ | ⟨e2,d2,k2,l',T,b2⟩
  ·rw[if_pos e2]
   rw[List.nil_append] at b2
   rcases BT.ready b2 d2 with⟨e3,d3,k3,b3⟩ | ⟨e3,d3,k3,b3⟩
   ·exact .inl ⟨e3,d3,by rw[k3,k2,k1],b3⟩
   ·exact .inr ⟨e3,d3,by rw[k3,k2,k1],b3.raw (by rw[k3,k2,k1];exact hX)⟩
  ·rw[if_neg (by rw[e2];decide)]
   exact .inr ⟨e2,d2,by rw[k2,k1],b2.raw (by rw[k2,k1];exact hX)⟩
 ·rw[if_neg (by rw[e1];decide)]
  exact .inr ⟨e1,d1,k1,b1⟩
theorem Qp{Y:List UInt8}(h:Y.head? =some 255∨Y[12]? =some 255):(iy Y).2=false:=by
 unfold iy
 rcases h with h | h
 ·rw[if_neg]
  intro q
  have:=congrArg List.head? q
  cases Y with
  | nil=>cases h
  | cons b X=>
   rw[List.head?_cons] at h
   obtain rfl:=Option.some.inj h
   rw[List.take_succ_cons,List.take_succ_cons,List.head?_cons] at this
   exact absurd (Option.some.inj this) (by show¬((255:UInt8)=76);decide)
 ·split
  ·show decide ((((Y.take 16).getD 12 0).toNat:Int)=254)=false
   rw[List.getD_eq_getElem?_getD,List.getElem?_take_of_lt (by decide),h]
   rfl
  ·rfl
structure NT(s:U)(c k i:Nat)(g:Int)(l:List Rc)(T O:List UInt8):Prop where
 bt:BT s (i*c) c (if i=0 then[] else O) (dp g) l T (if i=0 then O else[])
 hk:s.k=k
 hi:i=0∨i=1
 hO:O.length=c*k
 hg:0≤g∧g≤4294967295
 kg:(iy O).2=false∨(iy O).1<g
 big:64≤c*k
section
variable {s s':U} {c k i:Nat} {g:Int} {l:List Rc} {T O:List UInt8}
theorem NT.same(h:NT s c k i g l T O)(hl:s'.l=s.l)(hk:s'.k=s.k):NT s' c k i g l T O:=⟨h.bt.same hl hk,by rw[hk,h.hk],h.hi,h.hO,h.hg,h.kg,h.big⟩
theorem NT.a8(h:NT s c k i g l T O)(hd:s.dd=false):s.a8 c=(i,g,true):=by
 have hH:=qT g
 have fU:=h.bt.iJ
 have hn:=h.bt.n
 have hk:=h.hk
 have hO:=h.hO
 have hb:=h.big
 rcases h.hi with rfl | rfl
 ·simp only[if_true] at fU
  have h0:s.head 0=(g,true,0):=vJ (a:=0) (P:=[]) (Q:=aF l++(T++O)) hd fU (by simp) h.hg
  have h1:s.head c=((iy O).1,(iy O).2,0):=s6 hd (by
   rw[fU,hk]
   have e:(dp g++(aF l++(T++O)))=(dp g++(aF l++T))++O:=by simp
   rw[List.nil_append,e,List.drop_left' (by simp only[List.length_append,hH];rw[hk] at hn;omega)])
  unfold U.a8
  rw[h0,h1,if_neg]
  intro q
  rcases h.kg with o | o
  ·rw[o] at q;cases q.1
  ·rcases q.2 with q | q
   ·cases q
   ·simp only at q;omega
 ·simp only[if_neg (by decide:¬(1:Nat)=0)] at fU
  have h1:s.head c=(g,true,0):=vJ (a:=c) (P:=O) (Q:=aF l++(T++[])) hd fU (by rw[hO,hk]) h.hg
  have h0:s.head 0=((iy O).1,(iy O).2,0):=s6 hd (by
   rw[Nat.zero_mul,List.drop_zero,fU,List.take_append_of_le_length (by omega)])
  unfold U.a8
  rw[h0,h1,if_pos]
  refine⟨rfl,?_⟩
  rcases h.kg with o | o
  ·exact .inl o
  ·exact .inr o
theorem NT.fg(h:NT s c k i g l T O)(hd:s.dd=false):s.fg c=(l,16+(aF l).length,decide (T.head? ≠some 254)):=by
 unfold U.fg
 rw[h.a8 hd]
 exact h.bt.scan
theorem NT.bw(h:NT s c k i g l T O)(hd:s.dd=false):s.bw c=l.map aj:=by
 unfold U.bw
 rw[h.fg hd]
theorem NT.other(h:NT s c k i g l T O)(hk:s'.k=s.k){Y:List UInt8}(hY:Raw O Y)(hl:s'.l=(if i=0 then dp g++(aF l++T) else[])++(Y++(if i=0 then[] else dp g++(aF l++T)))):NT s' c k i g l T Y:=by
 refine⟨⟨?_,?_,h.bt.H,by rw[hk];exact h.bt.n,h.bt.pl,h.bt.tl⟩,by rw[hk,h.hk],h.hi,by rw[hY.1,h.hO],h.hg,?_,h.big⟩
 ·rw[hl]
  rcases h.hi with rfl | rfl
  ·simp
  ·simp
 ·rcases h.hi with rfl | rfl
  ·simp
  ·simp only[if_neg (by decide:¬(1:Nat)=0)]
   rw[hY.1,hk,h.hk,h.hO,Nat.one_mul]
 ·rcases hY.2 with e | e
  ·rw[e];exact h.kg
  ·exact .inl (Qp e)
theorem NT.copy (h : NT s c k i g l T O) (hd : s.dd = false) (pg : 0 < k) (hg : g < 4294967295) (K : List RK) (hK : ∀ r ∈ K, fJ r) (hm : aP K ≤ c * k - 16) :
    jn (s.copy c K) k (fun s'=>∃O',NT s' c k (1 - i) (g+1) (jM 16 K) (List.replicate (c*k - 16 - aP K) 255) O') (fun s'=>∃O',NT s' c k i g l T O'):=by
 have hn:=h.bt.n
 have hH:=qT g
 have hk:=h.hk
 have fU:=h.bt.iJ
 have hO:=h.hO
 have PZ:=h.hg
 have gA:=h.big
 have IL:=fun(s':U)(Y:List UInt8)=>h.other (s':=s') (Y:=Y)
 rw[hk] at hn
 unfold U.copy
 rw[h.a8 hd]
 simp only
 rw[if_neg (by omega)]
 have ra:(dp g++(aF l++T)).length=c*k:=by simp only[List.length_append,hH];omega
 have mF:=Ir g h.hg (aF l++T)
 rcases h.hi with rfl | rfl
 ·simp only[if_true] at fU
  have hb:=IK (s:=s) (a:=c) (c:=c) (P:=dp g++(aF l++T)) (X:=O) (Q:=[]) hd (by omega) (by rw[fU];simp) (by rw[ra,hk]) (by rw[hO,hk]) (by rw[hk];exact gA) (g+1) K hK (by rw[hk];exact hm)
  rw[show(1 - 0)*c=c by omega]
  rcases hb with⟨e,d,k1,b⟩ | ⟨e,d,k1,Y,hl,hY⟩
  ·refine .inl ⟨e,d,by rw[k1,hk],dp g++(aF l++T),⟨?_,by rw[k1,hk],.inr rfl,ra,by omega,.inr (by rw[mF];simp only;omega),gA⟩⟩
   rw[hk] at b
   simp only[show(1 - 0:Nat)=1 from rfl,Nat.one_mul]
   exact b
  ·exact .inr ⟨e,d,by rw[k1,hk],Y,IL _ Y k1 hY (by rw[hl];simp)⟩
 ·simp only[if_neg (by decide:¬(1:Nat)=0)] at fU
  have hb:=IK (s:=s) (a:=0) (c:=c) (P:=[]) (X:=O) (Q:=dp g++(aF l++T)) hd (by omega) (by rw[fU];simp) (by simp) (by rw[hO,hk]) (by rw[hk];exact gA) (g+1) K hK (by rw[hk];exact hm)
  rw[show(1 - 1)*c=0 by omega]
  rcases hb with⟨e,d,k1,b⟩ | ⟨e,d,k1,Y,hl,hY⟩
  ·refine .inl ⟨e,d,by rw[k1,hk],dp g++(aF l++T),⟨?_,by rw[k1,hk],.inl rfl,ra,by omega,.inr (by rw[mF];simp only;omega),gA⟩⟩
   rw[hk] at b
   simp only[show(1 - 1:Nat)=0 from rfl,Nat.zero_mul]
   exact b
  ·exact .inr ⟨e,d,by rw[k1,hk],Y,IL _ Y k1 hY (by rw[hl];simp)⟩
end
theorem IM{L:List RK}{key:List UInt8}{j:Nat}(h1:(L.getD j bG).lv=true∧(L.getD j bG).key=key):∀n,j<n→(∀i,j<i→i<n→¬((L.getD i bG).lv=true∧(L.getD i bG).key=key))→dB L key n=(j:Int)
 | 0,h,_=>absurd h (Nat.not_lt_zero _)
 | n+1,h,h2=>by
  unfold dB
  by_cases hj:j=n
  ·subst hj;rw[if_pos h1]
  ·rw[if_neg (h2 n (by omega) (by omega)),IM h1 n (by omega) fun i a b=>h2 i a (by omega)]
theorem IN{L:List RK}{key:List UInt8}:∀n,(∀i,i<n→¬((L.getD i bG).lv=true∧(L.getD i bG).key=key))→dB L key n= -1
 | 0,_=>rfl
 | n+1,h=>by
  unfold dB
  rw[if_neg (h n (by omega)),IN n fun i a=>h i (by omega)]
theorem IP{L:List RK}{key:List UInt8}{j:Nat}:∀n,dB L key n=(j:Int)→∀i,j<i→i<n→¬((L.getD i bG).lv=true∧(L.getD i bG).key=key)
 | 0,_,i,_,h=>absurd h (Nat.not_lt_zero _)
 | n+1,h,i,h1,h2=>by
  unfold dB at h
  split at h
  ·omega
  ·rename_i hq
   by_cases hi:i=n
   ·subst hi;exact hq
   ·exact IP n h i h1 (by omega)
theorem Dh{L:List RK}{r:RK}{j:Nat}(h:j<L.length):(L++[r]).getD j bG=L.getD j bG:=by
 rw[List.getD_eq_getElem?_getD,List.getD_eq_getElem?_getD,List.getElem?_append_left h]
theorem Di{L:List RK}{r:RK}:(L++[r]).getD L.length bG=r:=by
 rw[List.getD_eq_getElem?_getD,List.getElem?_append_right (Nat.le_refl _),Nat.sub_self];rfl
theorem IQ{L:List RK}{r:RK}{key:List UInt8}:∀n,n≤L.length→dB (L++[r]) key n=dB L key n
 | 0,_=>rfl
 | n+1,h=>by
  unfold dB
  rw[Dh (by omega),IQ n (by omega)]
theorem IS{L:List RK}{r:RK}(hr:r.lv=true)(key:List UInt8):aT (L++[r]) key=if r.key=key then(L.length:Int) else aT L key:=by
 unfold aT
 rw[List.length_append,List.length_singleton,dB,Di,IQ _ (Nat.le_refl _)]
 by_cases h:r.key=key
 ·rw[if_pos ⟨hr,h⟩,if_pos h]
 ·rw[if_neg fun q=>h q.2,if_neg h]
theorem Qq{L:List RK}{r:RK}(hr:r.lv=true):b8 (L++[r])=(b8 L).filter (fun x=>x.key !=r.key)++[r]:=by
 have hk:fj (L++[r]) L.length=true:=by
  unfold fj
  rw[Di,IS hr,if_pos rfl]
  simp
 have hI:dA (L++[r]) L.length=(dA L L.length).filter (fun j=>(L.getD j bG).key !=r.key):=by
  unfold dA
  rw[List.filter_filter]
  refine List.filter_congr fun j hj=> ?_
  have ke:=List.mem_range.1 hj
  unfold fj
  rw[Dh ke,IS hr]
  by_cases h:r.key=(L.getD j bG).key
  ·rw[if_pos h,decide_eq_false (by omega),←h];simp
  ·rw[if_neg h,show((L.getD j bG).key !=r.key)=true by simpa using Ne.symm h,Bool.true_and]
 unfold b8
 rw[List.length_append,List.length_singleton,sW,hk,hI,List.map_append,List.filter_map]
 congr 1
 ·refine List.map_congr_left fun j hj=> ?_
  have:=(List.mem_filter.1 (List.mem_filter.1 hj).1).1
  exact Dh (List.mem_range.1 this)
 ·simp only[if_true,List.map_cons,List.map_nil,Di]
def yD:Rc:=⟨[],[],false,0⟩
def mH(L:List RK)(j:Nat):Prop:=(L.getD j bG).lv=true∧aT L (L.getD j bG).key≠(j:Int)
instance (L:List RK) (j:Nat):Decidable (mH L j):=by unfold mH;exact inferInstance
def eQ(l:List Rc):Nat→List Rc
 | 0=>l
 | n+1=>if mH (l.map aj) n then(eQ l n).set n ((eQ l n).getD n yD).die else eQ l n
theorem wi(l:List Rc):∀n,(eQ l n).length=l.length
 | 0=>rfl
 | n+1=>by
  unfold eQ
  split
  ·rw[List.length_set,wi l n]
  ·exact wi l n
theorem Dj(l:List Rc):∀n j,n≤j→(eQ l n)[j]? =l[j]?
 | 0,j,_=>rfl
 | n+1,j,h=>by
  unfold eQ
  split
  ·rw[List.getElem?_set_ne (by omega),Dj l n j (by omega)]
  ·exact Dj l n j (by omega)
structure Tk(L L':List RK)(n:Nat):Prop where
 len:L'.length=L.length
 get:∀j,j<L.length→L'.getD j bG=if j<n∧mH L j then⟨(L.getD j bG).key,(L.getD j bG).val,false⟩ else L.getD j bG
theorem Qr{l:List Rc}{j:Nat}(h:j<l.length):(l.map aj).getD j bG=aj l[j]:=by
 rw[List.getD_eq_getElem?_getD,List.getElem?_map,List.getElem?_eq_getElem h];rfl
theorem Dk(l:List Rc):∀n,n≤l.length→Tk (l.map aj) ((eQ l n).map aj) n
 | 0,_=>⟨rfl,fun j _=>by rw[if_neg (fun q=>absurd q.1 (Nat.not_lt_zero _))];rfl⟩
 | n+1,h=>by
  have ih:=Dk l n (by omega)
  have hl:=wi l n
  refine⟨by rw[List.length_map,List.length_map,wi],fun j hj=> ?_⟩
  have ke:j<l.length:=by rw[List.length_map] at hj;exact hj
  have ij:=ih.get j hj
  unfold eQ
  by_cases hs:mH (l.map aj) n
  ·rw[if_pos hs]
   by_cases yE:j=n
   ·subst yE
    rw[if_pos ⟨Nat.lt_succ_self _,hs⟩,List.getD_eq_getElem?_getD,List.getElem?_map,List.getElem?_set_self (by omega),Qr ke]
    have hx:(eQ l j).getD j yD=l[j]:=by rw[List.getD_eq_getElem?_getD,Dj l j j (Nat.le_refl _),List.getElem?_eq_getElem ke];rfl
    rw[hx]
    rfl
   ·have e:(((eQ l n).set n ((eQ l n).getD n yD).die).map aj).getD j bG=((eQ l n).map aj).getD j bG:=by
      rw[List.getD_eq_getElem?_getD,List.getElem?_map,List.getElem?_set_ne (Ne.symm yE),←List.getElem?_map,←List.getD_eq_getElem?_getD]
    rw[e,ij]
    by_cases oA:j<n∧mH (l.map aj) j
    ·rw[if_pos oA,if_pos ⟨by omega,oA.2⟩]
    ·rw[if_neg oA,if_neg fun q=>oA ⟨by omega,q.2⟩]
  ·rw[if_neg hs,ij]
   by_cases oA:j<n∧mH (l.map aj) j
   ·rw[if_pos oA,if_pos ⟨by omega,oA.2⟩]
   ·rw[if_neg oA,if_neg]
    rintro⟨q1,q2⟩
    by_cases yE:j=n
    ·subst yE;exact hs q2
    ·exact oA ⟨by omega,q2⟩
section
variable {L L':List RK} {n:Nat}
theorem Tk.key(h:Tk L L' n){j:Nat}(hj:j<L.length):(L'.getD j bG).key=(L.getD j bG).key:=by
 rw[h.get j hj];split<;>rfl
theorem Tk.lv(h:Tk L L' n){j:Nat}(hj:j<L.length)(hv:(L'.getD j bG).lv=true):L'.getD j bG=L.getD j bG∧¬(j<n∧mH L j):=by
 have e:=h.get j hj
 by_cases q:j<n∧mH L j
 ·rw[if_pos q] at e;rw[e] at hv;cases hv
 ·rw[if_neg q] at e;exact⟨e,q⟩
theorem Tk.last(h:Tk L L' n)(key:List UInt8):aT L' key=aT L key:=by
 have ah:=ot L key L.length
 unfold aT
 rw[h.len]
 by_cases h0:0≤dB L key L.length
 ·obtain⟨j,hj⟩:∃j:Nat,dB L key L.length=(j:Int):=⟨(dB L key L.length).toNat,by omega⟩
  obtain⟨j1,j2,j3⟩:=pK _ _ _ _ hj
  have Qs:=IP _ hj
  have gv:¬mH L j:=fun q=>q.2 (by rw[j3];exact hj)
  have e:L'.getD j bG=L.getD j bG:=by rw[h.get j j1,if_neg fun q=>gv q.2]
  rw[hj]
  refine IM (by rw[e];exact⟨j2,j3⟩) _ j1 fun i h1 h2 q=>Qs i h1 h2 ?_
  have:=(h.lv h2 q.1).1
  rw[this] at q
  exact q
 ·have oz:=C8 L key L.length (by omega)
  have e1:dB L key L.length= -1:=by omega
  rw[e1]
  refine IN _ fun i hi q=>oz i hi ?_
  have:=(h.lv hi q.1).1
  rw[this] at q
  exact q
theorem Tk.kept(h:Tk L L' n):b8 L'=b8 L:=by
 have hI:dA L' L'.length=dA L L.length:=by
  unfold dA
  rw[h.len]
  refine List.filter_congr fun j hj=> ?_
  unfold fj
  rw[h.last,h.key (List.mem_range.1 hj)]
 unfold b8
 rw[hI]
 refine List.map_congr_left fun j hj=> ?_
 obtain⟨h1,h2⟩:=List.mem_filter.1 hj
 rw[h.get j (List.mem_range.1 h1),if_neg]
 rintro⟨_,q⟩
 exact q.2 (of_decide_eq_true h2)
theorem Tk.v8(h:Tk L L' L.length):fw L':=by
 unfold fw dj
 rw[List.nodup_iff_pairwise_ne,List.pairwise_map,List.pairwise_filter,List.pairwise_iff_getElem]
 intro i j hi hj lS h1 h2 e
 have bP:i<L.length:=by rw[←h.len];exact hi
 have ke:j<L.length:=by rw[←h.len];exact hj
 have gi:L'.getD i bG=L'[i]:=by rw[List.getD_eq_getElem?_getD,List.getElem?_eq_getElem hi];rfl
 have gj:L'.getD j bG=L'[j]:=by rw[List.getD_eq_getElem?_getD,List.getElem?_eq_getElem hj];rfl
 obtain⟨ei,ni⟩:=h.lv bP (by rw[gi];exact h1)
 obtain⟨ej,nj⟩:=h.lv ke (by rw[gj];exact h2)
 have li:aT L (L.getD i bG).key=(i:Int):=by
  refine Classical.byContradiction fun q=>ni ⟨bP,⟨?_,q⟩⟩
  rw[←ei,gi];exact h1
 have lj:aT L (L.getD j bG).key=(j:Int):=by
  refine Classical.byContradiction fun q=>nj ⟨ke,⟨?_,q⟩⟩
  rw[←ej,gj];exact h2
 rw[←ei,gi,e,←gj,ej,lj] at li
 omega
end
theorem Dl{a c:Nat}{P H T Q:List UInt8}(l:List Rc):∀(m n:Nat){s:U},n+m=l.length→BT s a c P H (eQ l n) T Q→s.dd=false→jn (s.eG a c (l.map aj) n m) s.k (fun s'=>BT s' a c P H (eQ l l.length) T Q) (fun s'=>∃n',n'≤l.length∧BT s' a c P H (eQ l n') T Q)
 | 0,n,s,h,b,hd=>by
  obtain rfl:n=l.length:=by omega
  exact .inl ⟨rfl,hd,rfl,b⟩
 | m+1,n,s,h,b,hd=>by
  have hlen:=wi l n
  rw[U.eG]
  by_cases hs:mH (l.map aj) n
  ·have iN:((l.map aj).getD n bG).lv=true∧aT (l.map aj) ((l.map aj).getD n bG).key≠(n:Int):=hs
   rw[if_pos iN]
   have n5:eQ l (n+1)=(eQ l n).set n ((eQ l n).getD n yD).die:=by rw[eQ,if_pos hs]
   obtain⟨l1,x,l2,e,fM⟩:∃l1 d l2,eQ l n=l1++d::l2∧l1.length=n:=⟨(eQ l n).take n,(eQ l n)[n],(eQ l n).drop (n+1),by rw[List.getElem_cons_drop,List.take_append_drop],by rw[List.length_take];omega⟩
   have Qt:eQ l (n+1)=l1++x.die::l2:=by
    rw[n5,e,←fM,List.set_append_right _ _ (Nat.le_refl _),Nat.sub_self,List.set_cons_zero,List.getD_eq_getElem?_getD,List.getElem?_append_right (Nat.le_refl _),Nat.sub_self]
    rfl
   have b0:=b
   rw[e] at b
   have hk:=b.kill hd
   rw[fM] at hk
   rcases hk with⟨e1,d1,k1,b1⟩ | ⟨e1,d1,k1,b1⟩
   ·rw[if_pos e1,←k1]
    exact Dl l m (n+1) (by omega) (by rw[Qt];exact b1) d1
   ·rw[if_neg (by rw[e1];decide)]
    exact .inr ⟨e1,d1,k1,n,by omega,by rw[e];exact b1⟩
  ·have iN:¬(((l.map aj).getD n bG).lv=true∧aT (l.map aj) ((l.map aj).getD n bG).key≠(n:Int)):=hs
   rw[if_neg iN]
   exact Dl l m (n+1) (by omega) (by rw[eQ,if_neg hs];exact b) hd
def NW(s:U)(c k:Nat)(G:Int)(M:List RK):Prop:=∃i g l T O,NT s c k i g l T O∧g≤G∧b8 (l.map aj)=M∧(∀r∈M,fJ r)
def NN(s:U)(c k:Nat)(G:Int)(M:List RK):Prop:=∃i g l T O,NT s c k i g l T O∧g≤G∧dj (l.map aj)=M∧fw (l.map aj)∧(∀r∈M,fJ r)
section
variable {s s':U} {c k:Nat} {G G':Int} {M:List RK}
theorem NN.nw(h:NN s c k G M):NW s c k G M:=by
 obtain⟨i,g,l,T,O,hn,hg,hM,hN,hK⟩:=h
 exact⟨i,g,l,T,O,hn,hg,(rb hN).trans hM,hK⟩
theorem NW.same(h:NW s c k G M)(hl:s'.l=s.l)(hk:s'.k=s.k):NW s' c k G M:=by
 obtain⟨i,g,l,T,O,hn,hg,hM,hK⟩:=h
 exact⟨i,g,l,T,O,hn.same hl hk,hg,hM,hK⟩
theorem NN.same(h:NN s c k G M)(hl:s'.l=s.l)(hk:s'.k=s.k):NN s' c k G M:=by
 obtain⟨i,g,l,T,O,hn,hg,hM,hN,hK⟩:=h
 exact⟨i,g,l,T,O,hn.same hl hk,hg,hM,hN,hK⟩
theorem NW.lk(h:NW s c k G M)(hd:s.dd=false):LK s c M:=by
 obtain⟨i,g,l,T,O,hn,hg,hM,hK⟩:=h
 exact⟨hd,i,l,_,_,hn.hi,by rw[hn.a8 hd],hn.bt.scan,hM⟩
theorem NM.nn(h:NM s c k G M):NN s c k G M:=by
 obtain⟨i,g,l,m,O,hn,hg,hM,hN,hK⟩:=h
 exact⟨i,g,l,_,O,⟨hn.bi.bt,hn.hk,hn.hi,hn.hO,hn.hg,hn.kg,hn.big⟩,hg,hM,hN,hK⟩
theorem NW.aW(h:NW s c k G M)(hd:s.dd=false):jn (s.aW c) k (fun s'=>NN s' c k G M) (fun s'=>NW s' c k G M):=by
 obtain⟨i,g,l,T,O,hn,hg,hM,hK⟩:=h
 have k8:=hn.bw hd
 have ht:=Dl l l.length 0 (by omega) hn.bt hd
 have hlen:(l.map aj).length=l.length:=List.length_map ..
 unfold U.aW U.tidy
 rw[hd,if_neg (by simp),hn.a8 hd,if_neg (by simp),k8,if_neg (by simp),hlen]
 have rk:∀{s':U}{l':List Rc},BT s' (i*c) c (if i=0 then[] else O) (dp g) l' T (if i=0 then O else[])→s'.k=s.k→NT s' c k i g l' T O:=fun b q=>⟨b,by rw[q,hn.hk],hn.hi,hn.hO,hn.hg,hn.kg,hn.big⟩
 rcases ht with⟨e,d,q,b⟩ | ⟨e,d,q,n,hle,b⟩
 ·have tk:=Dk l l.length (Nat.le_refl _)
  have v8:fw ((eQ l l.length).map aj):=by
   have Qu:Tk (l.map aj) ((eQ l l.length).map aj) (l.map aj).length:=by rw[hlen];exact tk
   exact Qu.v8
  exact .inl ⟨e,d,by rw[q,hn.hk],i,g,_,T,O,rk b q,hg,by rw[←rb v8,tk.kept,hM],v8,hK⟩
 ·exact .inr ⟨e,d,by rw[q,hn.hk],i,g,_,T,O,rk b q,hg,by rw[(Dk l n hle).kept,hM],hK⟩
theorem NN.del (h : NN s c k G M) (hd : s.dd = false) (key : List UInt8) :
    ((∀r∈M,r.key≠key)→s.del c key=(3,s))∧((∃r∈M,r.key=key)→jn (s.del c key) k (fun s'=>NN s' c k G (M.filter fun r=>r.key !=key)) (fun s'=>NW s' c k G M)):=by
 have ew:=h.nw.lk hd
 have hl:=ew.look
 have hw:=h.nw
 obtain⟨i,g,l,T,O,hn,nG,hM,hN,hK⟩:=h
 have qZ:s.del c key=if aT (l.map aj) key<0 then(3,s) else s.kill (i*c) c (aT (l.map aj) key):=by
  unfold U.del
  rw[hd,hn.bw hd,hn.a8 hd,if_neg (by simp)]
 have jJ:b8 (l.map aj)=M:=(rb hN).trans hM
 rw[qZ]
 constructor
 ·intro hk
  rw[if_pos (Ix (by rw[jJ];exact hk))]
 ·rintro⟨r,hr,rfl⟩
  rw[←jJ] at hr
  obtain⟨j,hj,gU,ew⟩:=Iw hr
  rw[ew,if_neg (by omega)]
  obtain⟨j1,j2,j3⟩:=pK _ _ _ _ ew
  have lr:j<l.length:=by rw[List.length_map] at hj;exact hj
  obtain⟨l1,x,l2,rfl,rfl⟩:∃l1 d l2,l=l1++d::l2∧l1.length=j:=⟨l.take j,l[j],l.drop (j+1),by rw[List.getElem_cons_drop,List.take_append_drop],by rw[List.length_take];omega⟩
  have hx:((l1++x::l2).map aj).getD l1.length bG=aj x:=by
   rw[List.getD_eq_getElem?_getD,List.getElem?_map,List.getElem?_append_right (Nat.le_refl _),Nat.sub_self];rfl
  rw[hx] at j2 j3
  rcases hn.bt.kill hd with⟨e,d,q,b⟩ | ⟨e,d,q,b⟩
  ·refine .inl ⟨e,d,by rw[q,hn.hk],i,g,_,T,O,⟨b,by rw[q,hn.hk],hn.hi,hn.hO,hn.hg,hn.kg,hn.big⟩,nG,?_,?_,?_⟩
   ·rw[←hM,List.map_append,List.map_cons]
    rw[List.map_append,List.map_cons] at hN
    have:=vV j2 hN
    rw[←j3,List.map_append,List.map_cons,←this]
    rfl
   ·unfold fw at hN⊢
    rw[List.map_append,List.map_cons] at hN⊢
    have:=vV j2 hN
    rw[show aj x.die=⟨(aj x).key,(aj x).val,false⟩ from rfl,this]
    exact hN.sublist (List.Sublist.map _ List.filter_sublist)
   ·intro y hy
    exact hK y (List.mem_filter.1 hy).1
  ·exact .inr ⟨e,d,by rw[q,hn.hk],i,g,_,T,O,⟨b,by rw[q,hn.hk],hn.hi,hn.hO,hn.hg,hn.kg,hn.big⟩,nG,jJ,hK⟩
theorem NT.put {i : Nat} {g : Int} {l : List Rc} {m : Nat} {O : List UInt8} (h : NT s c k i g l (List.replicate m 255) O) (hd : s.dd = false) {key val : List UInt8} (hk : 1 ≤ key.length ∧ key.length ≤ 255) (hv : val.length ≤ 65536) (hm : 12 + key.length + val.length ≤ m) :
    jn (s.put c key val) k (fun s'=>∃T,NT s' c k i g (kh l (aT (l.map aj) key)++[⟨key,val,true,16+(aF l).length⟩]) T O) (fun s'=>∃T,NT s' c k i g l T O∨NT s' c k i g (l++[⟨key,val,true,16+(aF l).length⟩]) T O):=by
 have ah:=ot (l.map aj) key (l.map aj).length
 rw[List.length_map] at ah
 have hL:aT (l.map aj) key=dB (l.map aj) key l.length:=by unfold aT;rw[List.length_map]
 rw[←hL] at ah
 have rk:∀{s':U}{l':List Rc}{T:List UInt8},BT s' (i*c) c (if i=0 then[] else O) (dp g) l' T (if i=0 then O else[])→s'.k=s.k→NT s' c k i g l' T O:=fun b q=>⟨b,by rw[q,h.hk],h.hi,h.hO,h.hg,h.kg,h.big⟩
 rw[Iq (h.a8 hd) rfl h.bt.scan]
 generalize aT (l.map aj) key=L at ah
 rcases h.bt.add (d:=⟨key,val,true,16+(aF l).length⟩) hd ⟨hk,hv⟩ rfl rfl hm with⟨e1,d1,k1,b1⟩ | ⟨e1,d1,k1,T,b1⟩
 ·have jd:(s.add (i*c) c key val).1=0:=e1
  rw[if_pos jd]
  by_cases h0:0≤L
  ·obtain⟨j,rfl⟩:∃j:Nat,L=(j:Int):=⟨L.toNat,by omega⟩
   have hj:j<l.length:=by omega
   obtain⟨l1,x,l2,rfl,rfl⟩:∃l1 d l2,l=l1++d::l2∧l1.length=j:=⟨l.take j,l[j],l.drop (j+1),by rw[List.getElem_cons_drop,List.take_append_drop],by rw[List.length_take];omega⟩
   have mE:kh (l1++x::l2) (l1.length:Int)=l1++x.die::l2:=by
    unfold kh
    rw[if_pos h0,Int.toNat_natCast,List.set_append_right _ _ (Nat.le_refl _),Nat.sub_self,List.set_cons_zero,List.getD_eq_getElem?_getD,List.getElem?_append_right (Nat.le_refl _),Nat.sub_self]
    rfl
   rw[if_pos h0,mE]
   have Dm:=b1
   rw[List.append_assoc,List.cons_append] at b1
   rcases b1.kill d1 with⟨e2,d2,k2,b2⟩ | ⟨e2,d2,k2,b2⟩
   ·exact .inl ⟨e2,d2,by rw[k2];exact k1.trans h.hk,_,rk (by rw[List.append_assoc];exact b2) (k2.trans k1)⟩
   ·exact .inr ⟨e2,d2,by rw[k2];exact k1.trans h.hk,_,.inr (rk (by rw[List.append_assoc];exact b2) (k2.trans k1))⟩
  ·rw[if_neg h0]
   have mE:kh l L=l:=by unfold kh;rw[if_neg h0]
   rw[mE]
   exact .inl ⟨rfl,d1,k1.trans h.hk,_,rk b1 k1⟩
 ·have jd:(s.add (i*c) c key val).1=6:=e1
  rw[if_neg (by rw[jd];decide)]
  exact .inr ⟨jd,d1,k1.trans h.hk,T,.inl (rk b1 k1)⟩
theorem NN.set (h : NN s c k G M) (hd : s.dd = false) (pg : 0 < k) (hG : G < 4294967295) {key val : List UInt8} (hk : 1 ≤ key.length ∧ key.length ≤ 255) (hv : val.length ≤ 65536) :
    (c*k - 16<aP M+(12+key.length+val.length)→s.set c key val=(5,s))∧
    (aP M+(12+key.length+val.length)≤c*k - 16→jn (s.set c key val) k (fun s'=>NN s' c k (G+1) (iM M key val)) (fun s'=>NW s' c k (G+1) M∨NW s' c k (G+1) (iM M key val))):=by
 have hw:=h.nw
 obtain⟨i,g,l,T,O,hn,nG,hM,hN,hK⟩:=h
 have gA:=hn.big
 have gn:=hn.hk
 have pL:=hn.bt.n
 rw[gn] at pL
 have cA:(c:Int)*(s.k:Int)=((c*k:Nat):Int):=by rw[gn];simp
 have bH:b8 (l.map aj)=M:=(rb hN).trans hM
 have kW:s.set c key val=if(c:Int)*s.k - 16<aP M+(12+key.length+val.length) then(5,s) else if decide (T.head? ≠some 254)=false∨(c:Int)*s.k - 16+16 - ((16+(aF l).length:Nat):Int)<12+key.length+val.length then(if(s.copy c M).1=0 then(if(s.copy c M).2.dd=true then(6,(s.copy c M).2) else(s.copy c M).2.put c key val) else s.copy c M) else s.put c key val:=by
  unfold U.set
  rw[if_neg (by omega),hd,hn.bw hd,hn.fg hd,bH]
  simp only[Bool.false_eq_true,if_false]
 rw[kW]
 constructor
 ·intro hf
  rw[if_pos (by omega)]
 ·intro hf
  rw[if_neg (by omega)]
  have IT:∀r∈iM M key val,fJ r:=by
   intro r hr
   unfold iM at hr
   rcases List.mem_append.1 hr with h1 | h1
   ·exact hK r (List.mem_filter.1 h1).1
   ·rw[List.mem_singleton] at h1
    subst h1
    exact⟨hk,hv⟩
  have fin:∀{t:U}{i':Nat}{g':Int}{l':List Rc}{m':Nat}{O':List UInt8},NT t c k i' g' l' (List.replicate m' 255) O'→t.dd=false→g'≤G+1→dj (l'.map aj)=M→fw (l'.map aj)→12+key.length+val.length≤m'→jn (t.put c key val) k (fun s'=>NN s' c k (G+1) (iM M key val)) (fun s'=>NW s' c k (G+1) M∨NW s' c k (G+1) (iM M key val)):=by
   intro t i' g' l' m' O' ht Qv vW bA mG fu
   have c8:=Iu (l:=l') (key:=key) (val:=val) (p:=16+(aF l').length) mG
   rw[bA] at c8
   refine(ht.put Qv hk hv fu).mono (fun s' q=> ?_) (fun s' q=> ?_)
   ·obtain⟨T',e2⟩:=q
    refine⟨i',g',_,T',O',e2,vW,c8,?_,IT⟩
    unfold fw
    rw[c8]
    unfold fw at mG
    rw[bA] at mG
    exact Is mG
   ·obtain⟨T',e2 | e2⟩:=q
    ·exact .inl ⟨i',g',_,T',O',e2,vW,(rb mG).trans bA,hK⟩
    ·refine .inr ⟨i',g',_,T',O',e2,vW,?_,IT⟩
     rw[List.map_append,List.map_cons,List.map_nil,Qq (by rfl),rb mG,bA]
     rfl
  by_cases hc:decide (T.head? ≠some 254)=false∨(c:Int)*s.k - 16+16 - ((16+(aF l).length:Nat):Int)<12+key.length+val.length
  ·rw[if_pos hc]
   rcases hn.copy hd pg (by omega) M hK (by omega) with⟨e,d,q,O',b⟩ | ⟨e,d,q,O',b⟩
   ·rw[if_pos e,if_neg (by rw[d];simp)]
    have pM:∀r∈M,r.lv=true:=by
     intro r hr
     rw[←hM] at hr
     exact(List.mem_filter.1 hr).2
    have vX:=C6 M 16 pM
    have vY:dj M=M:=by
     unfold dj
     rw[List.filter_eq_self]
     exact pM
    refine fin b d (by omega) (by rw[vX,vY]) ?_ (by omega)
    rw[vX]
    unfold fw
    rw[vY]
    unfold fw at hN
    rw[hM] at hN
    exact hN
   ·rw[if_neg (by rw[e];decide)]
    exact .inr ⟨e,d,q,.inl ⟨i,g,l,T,O',b,by omega,bH,hK⟩⟩
  ·rw[if_neg hc]
   have de:T=List.replicate T.length 255:=hn.bt.tl.clean (by
    cases hq:decide (T.head? ≠some 254) with
    | true=>rfl
    | false=>exact absurd (.inl hq) hc)
   rw[de] at hn
   exact fin hn hd (by omega) hM hN (by omega)
end
def Calm(s:U):Prop:=s.dd=false∧s.ar=0
theorem IU:∀(m:List UInt8)(k:Nat)(c:List UInt8)(w:Int),(eV m k c 0 w).2.2.1=0∧(eV m k c 0 w).2.2.2.1=false
 | [],k,c,w=>⟨rfl,rfl⟩
 | b::m,k,c,w=>by
  rw[eV,if_neg (by omega)]
  simp only[Int.lt_irrefl,if_false]
  exact IU m _ _ _
theorem Calm.prog{s:U}(h:Calm s)(A:Int)(m:List UInt8):Calm (s.prog A m).2:=by
 unfold U.prog
 rw[h.1,if_neg (by simp)]
 split
 ·have:=IU m A.toNat s.l s.wr
  rw[h.2]
  exact⟨this.2,this.1⟩
 ·exact h
theorem Calm.kill{s:U}(h:Calm s)(a c:Nat)(i:Int):Calm (s.kill a c i).2:=by
 unfold U.kill
 rw[h.1,if_neg (by simp)]
 split
 ·exact h
 ·exact h.prog _ _
theorem Calm.eG{a c:Nat}{l:List RK}:∀(m k:Nat){s:U},Calm s→Calm (s.eG a c l k m).2
 | 0,k,s,h=>h
 | m+1,k,s,h=>by
  rw[U.eG]
  split
  ·split
   ·exact Calm.eG m (k+1) (h.kill a c k)
   ·exact h.kill a c k
  ·exact Calm.eG m (k+1) h
theorem Calm.aW{s:U}(h:Calm s){c:Nat}(hc:(s.a8 c).2.2=true):Calm (s.aW c).2:=by
 unfold U.aW U.tidy
 rw[h.1,if_neg (by simp),hc,if_neg (by simp),if_neg (by simp)]
 exact h.eG _ _
theorem aw.eG{n k:Nat}(a c:Nat)(l:List RK):∀(m j:Nat){B:Int}{s:U},aw B n k s→aw (B+m) n k (s.eG a c l j m).2
 | 0,j,B,s,g=>g.mono (by omega)
 | m+1,j,B,s,g=>by
  rw[U.eG]
  split
  ·split
   ·exact(aw.eG a c l m (j+1) (g.kill a c j)).mono (by omega)
   ·exact(g.kill a c j).mono (by omega)
  ·exact(aw.eG a c l m (j+1) g).mono (by omega)
theorem aw.Qw{B:Int}{n k:Nat}{s:U}(g:aw B n k s){c:Nat}(pa:aA n k 0 c)(pb:aA n k c c)(hd:s.dd=false)(hc:(s.a8 c).2.2=true):aw (B+4194304) n k (s.aW c).2:=by
 have hf:(s.bw c).length≤4194304:=by
  unfold U.bw U.fg
  rw[List.length_map]
  rcases pG s c with hi | hi
  ·rw[hi,Nat.zero_mul];exact jH g pa (l:=(s.scan 0 c).1) (e:=(s.scan 0 c).2.1) (b:=(s.scan 0 c).2.2) rfl
  ·rw[hi,Nat.one_mul];exact jH g pb (l:=(s.scan c c).1) (e:=(s.scan c c).2.1) (b:=(s.scan c c).2.2) rfl
 unfold U.aW U.tidy
 rw[hd,if_neg (by simp),hc,if_neg (by simp),if_neg (by simp)]
 exact(aw.eG _ c _ _ 0 g).mono (by omega)
structure SN(s:U)(c k i:Nat)(R:List RK):Prop where
 ex:∃(G:Int)(M:List RK),NN s c k G M∧RM M R∧G≤1+i
 dd:s.dd=false
 go:aw (1000+i*300000000000) (2*c*k) k s
 len:R.length≤i
 ok:∀r∈R,fJ r
 lv:∀r∈R,r.lv=true
structure SW(s:U)(c k i:Nat)(R:List RK):Prop where
 ex:∃(G:Int)(M:List RK),NW s c k G M∧RM M R∧G≤1+i
 go:aw (1000+i*300000000000) (2*c*k) k s
 len:R.length≤i
 ok:∀r∈R,fJ r
 lv:∀r∈R,r.lv=true
section
variable {s s':U} {c k i j:Nat} {R R':List RK}
theorem SN.sw(h:SN s c k i R):SW s c k i R:=by
 obtain⟨G,M,h1,h2,h3⟩:=h.ex
 exact⟨⟨G,M,h1.nw,h2,h3⟩,h.go,h.len,h.ok,h.lv⟩
theorem SN.sort(h:SN s c k i R):cP R:=by
 obtain⟨G,M,_,h2,_⟩:=h.ex
 exact h2.sort
theorem SN.mono(h:SN s c k i R)(lS:i≤j):SN s c k j R:=by
 obtain⟨G,M,h1,h2,h3⟩:=h.ex
 exact⟨⟨G,M,h1,h2,by omega⟩,h.dd,h.go.mono (by omega),Nat.le_trans h.len lS,h.ok,h.lv⟩
theorem SN.look(h:SN s c k i R):∃M,LK s c M∧RM M R:=by
 obtain⟨G,M,h1,h2,_⟩:=h.ex
 exact⟨M,h1.nw.lk h.dd,h2⟩
theorem SM.sn(h:SM s c k i R)(lv:∀r∈R,r.lv=true):SN s c k i R:=by
 obtain⟨G,M,h1,h2,h3⟩:=h.ex
 exact⟨⟨G,M,h1.nn,h2,h3⟩,h1.live,h.go,h.len,h.ok,lv⟩
theorem IV{key val:List UInt8}{r:RK}(hr:r∈ou R key val):r∈R∨r=⟨key,val,true⟩:=by
 rcases List.mem_append.1 ((sZ (eO R key) ⟨key,val,true⟩).mem_iff.1 hr) with hr | hr
 ·exact .inl (List.mem_filter.1 hr).1
 ·rw[List.mem_singleton] at hr;exact .inr hr
theorem SN.set (h : SN s c k i R) (hi : i ≤ 4000000000) (hk : 0 < k) (pa : aA (2 * c * k) k 0 c) (pb : aA (2 * c * k) k c c) (key val : List UInt8) :
    ((s.set c key val).1=fh R ((c*k - 16:Nat):Int) key val∧SN (s.set c key val).2 c k (i+1) (eP R ((c*k - 16:Nat):Int) key val))∨
    ((s.set c key val).1=6∧fh R ((c*k - 16:Nat):Int) key val=0∧(s.set c key val).2.dd=true∧(SW (s.set c key val).2 c k (i+1) R∨SW (s.set c key val).2 c k (i+1) (eP R ((c*k - 16:Nat):Int) key val))):=by
 obtain⟨G,M,h1,h2,h3⟩:=h.ex
 have hu:=h2.used
 unfold eP
 by_cases hb:key.length<1∨255<key.length∨65536<val.length
 ·have e:s.set c key val=(1,s):=by unfold U.set;rw[if_pos hb]
  have e2:fh R ((c*k - 16:Nat):Int) key val=1:=if_pos hb
  rw[e,e2,if_neg (by decide)]
  exact .inl ⟨rfl,h.mono (Nat.le_succ i)⟩
 ·have hs:=h1.set h.dd hk (by omega:G<4294967295) (key:=key) (val:=val) ⟨by omega,by omega⟩ (by omega)
  by_cases hf:((c*k - 16:Nat):Int)< (aP R+(12+key.length+val.length):Nat)
  ·have e:=hs.1 (by rw[←hu];omega)
   have e2:fh R ((c*k - 16:Nat):Int) key val=5:=by unfold fh;rw[if_neg hb,if_pos hf]
   rw[e,e2,if_neg (by decide)]
   exact .inl ⟨rfl,h.mono (Nat.le_succ i)⟩
  ·have e2:fh R ((c*k - 16:Nat):Int) key val=0:=by unfold fh;rw[if_neg hb,if_neg hf]
   have gg:=h.go.set pa pb key val
   have cq:∀r∈ou R key val,fJ r:=fun r hr=>by
    rcases IV hr with hr | rfl
    ·exact h.ok r hr
    ·exact⟨⟨by show 1≤key.length;omega,by show key.length≤255;omega⟩,by show val.length≤65536;omega⟩
   have pM:∀r∈ou R key val,r.lv=true:=fun r hr=>by
    rcases IV hr with hr | rfl
    ·exact h.lv r hr
    ·rfl
   have hl:=Nat.le_trans (CX R key val) (Nat.succ_le_succ h.len)
   have Dn:=gg.mono (B':=1000+((i+1:Nat):Int)*300000000000) (by omega)
   rw[e2,if_pos rfl]
   rcases hs.2 (by rw[←hu];omega) with⟨e,d,q,m⟩ | ⟨e,d,q,m⟩
   ·exact .inl ⟨e,⟨⟨G+1,_,m,h2.set key val,by omega⟩,d,Dn,hl,cq,pM⟩⟩
   ·refine .inr ⟨e,rfl,d,?_⟩
    rcases m with m | m
    ·exact .inl ⟨⟨G+1,_,m,h2,by omega⟩,Dn,Nat.le_succ_of_le h.len,h.ok,h.lv⟩
    ·exact .inr ⟨⟨G+1,_,m,h2.set key val,by omega⟩,Dn,hl,cq,pM⟩
theorem SN.del (h : SN s c k i R) (key : List UInt8) :
    ((s.del c key).1=ov R key∧SN (s.del c key).2 c k (i+1) (eO R key))∨
    ((s.del c key).1=6∧ov R key=0∧(s.del c key).2.dd=true∧(SW (s.del c key).2 c k (i+1) R∨SW (s.del c key).2 c k (i+1) (eO R key))):=by
 obtain⟨G,M,h1,h2,h3⟩:=h.ex
 have hd:=h1.del h.dd key
 by_cases hx:∃r∈R,r.key=key
 ·have j4:∃r∈M,r.key=key:=by obtain⟨r,hr,e⟩:=hx;exact⟨r,h2.perm.mem_iff.1 hr,e⟩
  have gg:=(h.go.del c key).mono (B':=1000+((i+1:Nat):Int)*300000000000) (by omega)
  rw[H9 hx]
  rcases hd.2 j4 with⟨e,d,q,m⟩ | ⟨e,d,q,m⟩
  ·exact .inl ⟨e,⟨⟨G,_,m,h2.del key,by omega⟩,d,gg,Nat.le_trans (yB R key) (Nat.le_succ_of_le h.len),fun r hr=>h.ok r (List.mem_filter.1 hr).1,fun r hr=>h.lv r (List.mem_filter.1 hr).1⟩⟩
  ·exact .inr ⟨e,rfl,d,.inl ⟨⟨G,_,m,h2,by omega⟩,gg,Nat.le_succ_of_le h.len,h.ok,h.lv⟩⟩
 ·have ka:∀r∈R,r.key≠key:=fun r hr e=>hx ⟨r,hr,e⟩
  have e:=hd.1 fun r hr q=>ka r (h2.perm.mem_iff.2 hr) q
  rw[e,Ia ka,yA ka]
  exact .inl ⟨rfl,h.mono (Nat.le_succ i)⟩
theorem NW.s9{G:Int}{M:List RK}(h:NW s c k G M)(hd:s.dd=false):(s.a8 c).2.2=true:=by
 obtain⟨i,g,l,T,O,hn,_⟩:=h
 rw[hn.a8 hd]
theorem SW.aW (h : SW s c k i R) (hd : s.dd = false) (pa : aA (2 * c * k) k 0 c) (pb : aA (2 * c * k) k c c) :
    ((s.aW c).1=0∧SN (s.aW c).2 c k (i+1) R)∨((s.aW c).1=6∧(s.aW c).2.dd=true∧SW (s.aW c).2 c k (i+1) R):=by
 obtain⟨G,M,h1,h2,h3⟩:=h.ex
 have gg:=(h.go.Qw pa pb hd (h1.s9 hd)).mono (B':=1000+((i+1:Nat):Int)*300000000000) (by omega)
 rcases h1.aW hd with⟨e,d,q,m⟩ | ⟨e,d,q,m⟩
 ·exact .inl ⟨e,⟨⟨G,M,m,h2,by omega⟩,d,gg,Nat.le_succ_of_le h.len,h.ok,h.lv⟩⟩
 ·exact .inr ⟨e,d,⟨⟨G,M,m,h2,by omega⟩,gg,Nat.le_succ_of_le h.len,h.ok,h.lv⟩⟩
end
def U.fx(s:U)(x y:Int):U:=⟨s.l,s.k,x,y,false,s.wr⟩
def U.fy(s:U):U:=⟨s.l,s.k,0,s.pt,false,s.wr⟩
section
variable {s:U} {c k i:Nat} {R:List RK}
theorem Qx(hd:s.dd=false){x y:Int}(hx:0≤x)(hy:0≤y):s.arm x y=(0,s.fx x y):=by
 unfold U.arm
 rw[hd,if_neg (by simp),if_neg (by omega)]
 rfl
theorem Qy(hd:s.dd=true):s.on=(0,s.fy):=by
 unfold U.on
 rw[hd,if_pos rfl]
 rfl
theorem aw.fx{B:Int}{n k:Nat}(g:aw B n k s){x y:Int}(hx:0≤x∧x≤65535)(hy:0≤y∧y≤65535):aw B n k (s.fx x y):=
 ⟨g.len,g.kk,⟨by show(-9223372036854775808:Int)≤x;omega,by show x≤9223372036854775807;omega⟩,⟨hy.1,by show(-9223372036854775808:Int)≤y;omega,by show y≤9223372036854775807;omega⟩,g.wr,g.l,g.k⟩
theorem aw.fy{B:Int}{n k:Nat}(g:aw B n k s):aw B n k s.fy:=⟨g.len,g.kk,⟨by show(-9223372036854775808:Int)≤0;decide,by show(0:Int)≤9223372036854775807;decide⟩,g.pt,g.wr,g.l,g.k⟩
theorem SN.fx(h:SN s c k i R){x y:Int}(hx:0≤x∧x≤65535)(hy:0≤y∧y≤65535):SN (s.fx x y) c k i R:=by
 obtain⟨G,M,h1,h2,h3⟩:=h.ex
 exact⟨⟨G,M,h1.same rfl rfl,h2,h3⟩,rfl,h.go.fx hx hy,h.len,h.ok,h.lv⟩
theorem SW.fy(h:SW s c k i R):SW s.fy c k i R:=by
 obtain⟨G,M,h1,h2,h3⟩:=h.ex
 exact⟨⟨G,M,h1.same rfl rfl,h2,h3⟩,h.go.fy,h.len,h.ok,h.lv⟩
theorem SW.s9(h:SW s c k i R)(hd:s.dd=false):(s.a8 c).2.2=true:=by
 obtain⟨G,M,h1,_⟩:=h.ex
 exact h1.s9 hd
theorem SW.IW(h:SW s c k i R)(hc:Calm s)(pa:aA (2*c*k) k 0 c)(pb:aA (2*c*k) k c c):(s.aW c).1=0∧SN (s.aW c).2 c k (i+1) R:=by
 rcases h.aW hc.1 pa pb with h1 | ⟨_,h2,_⟩
 ·exact h1
 ·have:=(hc.aW (h.s9 hc.1)).1
  rw[h2] at this;cases this
end
end Go.Proofs.YtpbpiehcchannaaGreatDoor
