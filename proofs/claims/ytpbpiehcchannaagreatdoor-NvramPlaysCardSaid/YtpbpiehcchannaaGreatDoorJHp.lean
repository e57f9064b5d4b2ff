/- A store without losses of power: the plain law. A store without losses of power is a map: the plain law. Opening a store, and asking it: the plain law. A store as a sorted map: the plain law. What a store's look at its bank sees: the plain law. Conditions: the premises of each law. -/
import Derived.Test.YtpbpiehcchannaaGreatDoorJNv10
import Derived.Lib.Bytealg
namespace Go.Proofs.YtpbpiehcchannaaGreatDoor
set_option linter.unusedVariables false
set_option linter.unusedSimpArgs false
def ll(O:List UInt8):Int×Bool:=if(O.take 16).take 12=dE (cm (((O.take 16).drop 4).take 4)) then((cm (((O.take 16).drop 4).take 4):Int),decide ((((O.take 16).getD 12 0).toNat:Int)=254)) else(0,false)
theorem vO{s:J}{a:Nat}{O:List UInt8}(hd:s.dd=false)(h:(s.l.drop (a*s.k)).take 16=O.take 16):s.head a=((ll O).1,(ll O).2,0):=by
 unfold J.head ll
 rw[hd,h,if_neg (by simp)]
 split<;>rfl
structure NG(s:J)(c k i:Nat)(g:Int)(l:List Rc)(m:Nat)(O:List UInt8):Prop where
 bi:BI s (i*c) c (if i=0 then[] else O) (fb g) l m (if i=0 then O else[])
 hk:s.k=k
 ji:s.ar=0
 hi:i=0∨i=1
 hO:O.length=c*k
 hg:0≤g∧g≤4294967295
 tg:(ll O).2=false∨(ll O).1<g
 fa:64≤c*k
theorem L7{s:J}{c i a:Nat}{g:Int}{r:Bool}(hc:s.aI c=(i,g,r))(ha:i*c=a){l:List Rc}{e:Nat}{b:Bool}(hS:s.scan a c=(l,e,b)){key val:List UInt8}:s.put c key val=if(s.add a c key val).1=0 then(if 0≤aJ (l.map an) key then(s.add a c key val).2.kill a c (aJ (l.map an) key) else(0,(s.add a c key val).2)) else s.add a c key val:=by
 unfold J.put J.au J.be
 rw[hc,ha,hS]
section
variable {s:J} {c k i:Nat} {g:Int} {l:List Rc} {m:Nat} {O:List UInt8}
theorem NG.aI(h:NG s c k i g l m O):s.aI c=(i,g,true):=by
 have hH:=vE g
 have ln:=h.bi.pC
 have hn:=h.bi.n
 have hk:=h.hk
 have hO:=h.hO
 have hb:=h.fa
 have hd:=h.bi.dd
 rcases h.hi with rfl | rfl
 ·simp only[if_true] at ln
  have h0:s.head 0=(g,true,0):=zD (a:=0) (P:=[]) (Q:=a8 l++(List.replicate m 255++O)) hd ln (by simp) h.hg
  have h1:s.head c=((ll O).1,(ll O).2,0):=vO hd (by
   rw[ln,hk]
   have e:(fb g++(a8 l++(List.replicate m 255++O)))=(fb g++(a8 l++List.replicate m 255))++O:=by simp
   rw[List.nil_append,e,List.drop_left' (by simp only[List.length_append,List.length_replicate,hH];rw[hk] at hn;omega)])
  unfold J.aI
  rw[h0,h1,if_neg]
  intro q
  rcases h.tg with o | o
  ·rw[o] at q;cases q.1
  ·rcases q.2 with q | q
   ·cases q
   ·simp only at q;omega
 ·simp only[if_neg (by decide:¬(1:Nat)=0)] at ln
  have h1:s.head c=(g,true,0):=zD (a:=c) (P:=O) (Q:=a8 l++(List.replicate m 255++[])) hd ln (by rw[hO,hk]) h.hg
  have h0:s.head 0=((ll O).1,(ll O).2,0):=vO hd (by
   rw[Nat.zero_mul,List.drop_zero,ln,List.take_append_of_le_length (by omega)])
  unfold J.aI
  rw[h0,h1,if_pos]
  refine⟨rfl,?_⟩
  rcases h.tg with o | o
  ·exact .inl o
  ·exact .inr o
theorem NG.be(h:NG s c k i g l m O):s.be c=(l,16+(a8 l).length,true):=by
 unfold J.be
 rw[h.aI]
 exact h.bi.scan
theorem NG.au(h:NG s c k i g l m O):s.au c=l.map an:=by
 unfold J.au
 rw[h.be]
def ma(l:List Rc)(L:Int):List Rc:=if 0≤L then l.set L.toNat (l.getD L.toNat ⟨[],[],false,0⟩).die else l
theorem NG.put (h : NG s c k i g l m O) {key val : List UInt8} (hk : 1 ≤ key.length ∧ key.length ≤ 255) (hv : val.length ≤ 65536) (hm : 12 + key.length + val.length ≤ m) :
    ∃s' d,s.put c key val=(0,s')∧d=⟨key,val,true,16+(a8 l).length⟩∧NG s' c k i g (ma l (aJ (l.map an) key)++[d]) (m - (12+key.length+val.length)) O:=by
 obtain⟨s1,e1,b1,k1,a1⟩:=h.bi.Eo (d:=⟨key,val,true,16+(a8 l).length⟩) ⟨hk,hv⟩ rfl rfl hm (by have:=h.ji;omega)
 have vP:s1.ar=0:=by rw[a1,h.ji];rfl
 have ai:=n4 (l.map an) key (l.map an).length
 rw[List.length_map] at ai
 have hL:aJ (l.map an) key=eQ (l.map an) key l.length:=by unfold aJ;rw[List.length_map]
 rw[←hL] at ai
 rw[L7 h.aI rfl h.bi.scan,e1,if_pos rfl]
 generalize aJ (l.map an) key=L at ai
 by_cases h0:0≤L
 ·obtain⟨j,rfl⟩:∃j:Nat,L=(j:Int):=⟨L.toNat,by omega⟩
  have hj:j<l.length:=by omega
  obtain⟨l1,x,l2,rfl,rfl⟩:∃l1 d l2,l=l1++d::l2∧l1.length=j:=⟨l.take j,l[j],l.drop (j+1),by rw[List.getElem_cons_drop,List.take_append_drop],by rw[List.length_take];omega⟩
  rw[List.append_assoc,List.cons_append] at b1
  obtain⟨s2,e2,b2,k2,a2⟩:=b1.Er (by omega)
  rw[if_pos h0,e2]
  have pH:ma (l1++x::l2) (l1.length:Int)=l1++x.die::l2:=by
   unfold ma
   rw[if_pos h0,Int.toNat_natCast,List.set_append_right _ _ (Nat.le_refl _),Nat.sub_self,List.set_cons_zero,List.getD_eq_getElem?_getD,List.getElem?_append_right (Nat.le_refl _),Nat.sub_self]
   rfl
  rw[pH]
  exact⟨s2,_,rfl,rfl,⟨by rw[List.append_assoc];exact b2,by rw[k2,k1,h.hk],by rw[a2,vP];rfl,h.hi,h.hO,h.hg,h.tg,h.fa⟩⟩
 ·rw[if_neg h0]
  have pH:ma l L=l:=by unfold ma;rw[if_neg h0]
  rw[pH]
  exact⟨s1,_,rfl,rfl,⟨b1,by rw[k1,h.hk],vP,h.hi,h.hO,h.hg,h.tg,h.fa⟩⟩
end
def mb:Nat→List RK→List Rc
 | _,[]=>[]
 | a,r::l=>⟨r.key,r.val,true,a⟩::mb (a+(12+r.key.length+r.val.length)) l
theorem E5:∀(K:List RK)(a:Nat),(∀r∈K,r.lv=true)→(mb a K).map an=K
 | [],a,_=>rfl
 | r::K,a,h=>by
  rw[mb,List.map_cons,E5 K _ fun x hx=>h x (List.mem_cons_of_mem _ hx)]
  have:=h r (List.mem_cons_self ..)
  obtain⟨x,y,z⟩:=r
  simp only at this
  subst this
  rfl
def th(r:RK):Prop:=(1≤r.key.length∧r.key.length≤255)∧r.val.length≤65536
theorem BI.bf {a c : Nat} {P H Q : List UInt8} : ∀ (K : List RK) {s : J} {l : List Rc} {m : Nat}, BI s a c P H l m Q → s.ar = 0 → (∀ r ∈ K, th r) → bw K ≤ m →
    ∃s',s.bf a c K=(0,s')∧BI s' a c P H (l++mb (16+(a8 l).length) K) (m - bw K) Q∧s'.k=s.k∧s'.ar=0
 | [],s,l,m,h,ha,_,_=>⟨s,rfl,by rw[mb,List.append_nil];exact h,rfl,ha⟩
 | r::K,s,l,m,h,ha,hK,hm=>by
  have hr:=hK r (List.mem_cons_self ..)
  simp only[bw] at hm
  obtain⟨s1,e1,b1,k1,a1⟩:=h.Eo (d:=⟨r.key,r.val,true,16+(a8 l).length⟩) ⟨hr.1,hr.2⟩ rfl rfl (by show 12+r.key.length+r.val.length≤m;omega) (by omega)
  have vP:s1.ar=0:=by rw[a1,ha];rfl
  obtain⟨s2,e2,b2,k2,a2⟩:=BI.bf K b1 vP (fun x hx=>hK x (List.mem_cons_of_mem _ hx)) (by show bw K≤m - (12+r.key.length+r.val.length);omega)
  refine⟨s2,?_,?_,by rw[k2,k1],a2⟩
  ·show(if(s.add a c r.key r.val).1=0 then(s.add a c r.key r.val).2.bf a c K else s.add a c r.key r.val)=(0,s2)
   have oV:s.add a c r.key r.val=(0,s1):=e1
   rw[oV,if_pos rfl,e2]
  ·have el:(a8 (l++[(⟨r.key,r.val,true,16+(a8 l).length⟩:Rc)])).length=(a8 l).length+(12+r.key.length+r.val.length):=by
     rw[qX,List.length_append]
     show(a8 l).length+(a8 [(⟨r.key,r.val,true,16+(a8 l).length⟩:Rc)]).length=_
     simp only[a8,List.flatMap_cons,List.flatMap_nil,List.append_nil,mQ]
     rfl
   rw[List.append_assoc,el] at b2
   have ep:mb (16+(a8 l).length) (r::K)=⟨r.key,r.val,true,16+(a8 l).length⟩::mb (16+((a8 l).length+(12+r.key.length+r.val.length))) K:=by
    rw[mb,Nat.add_assoc]
   have em:m - bw (r::K)=m - bP ⟨r.key,r.val,true,16+(a8 l).length⟩ - bw K:=by
    unfold bP;simp only[bw];omega
   rw[ep,em]
   exact b2
theorem L8 {s : J} {a c : Nat} {P X Q : List UInt8} (hd : s.dd = false) (hk : 0 < s.k) (hl : s.l = P ++ (X ++ Q)) (hP : P.length = a * s.k) (hX : X.length = c * s.k) (E6 : 64 ≤ c * s.k) (ji : s.ar = 0) (g : Int) :
    ∃s1,s.format a c g=(0,s1)∧BI s1 a c P (dE g++[255,255,255,255]) [] (c*s.k - 16) Q∧s1.k=s.k∧s1.ar=0:=by
 refine⟨_,La (g:=g) hd hk hl hP hX (by omega) (by omega),⟨?_,hP,by simp[j7],?_,trivial,rfl⟩,rfl,?_⟩
 ·show P++(dE g++(List.replicate (c*s.k - 12) 255++Q))=_
  rw[vD (by omega:4≤c*s.k - 12),show c*s.k - 12 - 4=c*s.k - 16 by omega]
  simp[a8,List.replicate_succ]
 ·show 16+(a8 []).length+(c*s.k - 16)=c*s.k
  simp only[a8,List.flatMap_nil,List.length_nil];omega
 ·show(if 0<s.ar then s.ar - (c+12) else s.ar)=0
  rw[ji];rfl
theorem L9 {s : J} {a c : Nat} {P Q : List UInt8} {l : List Rc} {m : Nat} {g : Int} (h : BI s a c P (dE g ++ [255, 255, 255, 255]) l m Q) (ji : s.ar = 0) :
    ∃s',s.prog ((a:Int)*(s.k:Int)+12) [254]=(0,s')∧BI s' a c P (fb g) l m Q∧s'.k=s.k∧s'.ar=0:=by
 have hB:=j7 g
 rw[qZ (m:=[254]) (p:=P++dE g) (q:=[255]) (r:=[255,255,255]++(a8 l++(List.replicate m 255++Q))) h.dd (by simp only[List.length_append,h.P,hB,Int.natCast_add,Int.natCast_mul];rfl) rfl (by rw[h.pC];simp) (by omega)]
 refine⟨_,rfl,⟨?_,h.P,vE g,h.n,h.pl,rfl⟩,rfl,?_⟩
 ·show P++dE g++([255&&&254]++([255,255,255]++(a8 l++(List.replicate m 255++Q))))=_
  rw[Ek]
  simp[fb]
 ·show(if 0<s.ar then s.ar - (([254]:List UInt8).length:Int) else s.ar)=0
  rw[ji];rfl
theorem zS {s : J} {a c : Nat} {P X Q : List UInt8} (hd : s.dd = false) (hk : 0 < s.k) (hl : s.l = P ++ (X ++ Q)) (hP : P.length = a * s.k) (hX : X.length = c * s.k) (E6 : 64 ≤ c * s.k) (ji : s.ar = 0) (g : Int) (K : List RK) (hK : ∀ r ∈ K, th r) (hm : bw K ≤ c * s.k - 16) :
    ∃s',s.b6 a c g K=(0,s')∧BI s' a c P (fb g) (mb 16 K) (c*s.k - 16 - bw K) Q∧s'.k=s.k∧s'.ar=0:=by
 obtain⟨s1,e1,b1,k1,a1⟩:=L8 hd hk hl hP hX E6 ji g
 obtain⟨s2,e2,b2,k2,a2⟩:=BI.bf K b1 a1 hK hm
 obtain⟨s3,e3,b3,k3,a3⟩:=L9 b2 a2
 refine⟨s3,?_,?_,by rw[k3,k2,k1],a3⟩
 ·unfold J.b6
  rw[e1,if_pos rfl,e2,if_pos rfl]
  exact e3
 ·rw[List.nil_append] at b3
  exact b3
theorem Ma(g:Int)(hg:0≤g∧g≤4294967295)(r:List UInt8):ll (fb g++r)=(g,true):=by
 have h:=zD (s:=⟨fb g++r,0,0,0,false,0⟩) (a:=0) (P:=[]) (Q:=r) rfl rfl (by simp) hg
 have h2:=vO (s:=⟨fb g++r,0,0,0,false,0⟩) (a:=0) (O:=fb g++r) rfl (by simp)
 rw[h] at h2
 simp only[Prod.mk.injEq] at h2
 exact Prod.ext h2.1.symm h2.2.1.symm
theorem NG.copy {s : J} {c k i : Nat} {g : Int} {l : List Rc} {m : Nat} {O : List UInt8} (h : NG s c k i g l m O) (qR : 0 < k) (hg : g < 4294967295) (K : List RK) (hK : ∀ r ∈ K, th r) (hm : bw K ≤ c * k - 16) :
    ∃s' O',s.copy c K=(0,s')∧NG s' c k (1 - i) (g+1) (mb 16 K) (c*k - 16 - bw K) O':=by
 have hn:=h.bi.n
 have hH:=vE g
 have hk:=h.hk
 have ln:=h.bi.pC
 have hO:=h.hO
 have Qf:=h.hg
 have eO:=h.fa
 rw[hk] at hn
 unfold J.copy
 rw[h.aI]
 simp only
 rw[if_neg (by omega)]
 have zT:(fb g++(a8 l++List.replicate m 255)).length=c*k:=by simp only[List.length_append,List.length_replicate,hH];omega
 have gD:=Ma g h.hg (a8 l++List.replicate m 255)
 rcases h.hi with rfl | rfl
 ·simp only[if_true] at ln
  obtain⟨s',e,b,k1,a1⟩:=zS (s:=s) (a:=c) (c:=c) (P:=fb g++(a8 l++List.replicate m 255)) (X:=O) (Q:=[]) h.bi.dd (by omega) (by rw[ln];simp) (by rw[zT,hk]) (by rw[hO,hk]) (by rw[hk];exact eO) h.ji (g+1) K hK (by rw[hk];exact hm)
  refine⟨s',fb g++(a8 l++List.replicate m 255),?_,⟨?_,by rw[k1,hk],a1,.inr rfl,zT,by omega,.inr (by rw[gD];simp only;omega),eO⟩⟩
  ·rw[show(1 - 0)*c=c by omega];exact e
  ·rw[hk] at b
   simp only[show(1 - 0:Nat)=1 from rfl,Nat.one_mul]
   exact b
 ·simp only[if_neg (by decide:¬(1:Nat)=0)] at ln
  obtain⟨s',e,b,k1,a1⟩:=zS (s:=s) (a:=0) (c:=c) (P:=[]) (X:=O) (Q:=fb g++(a8 l++List.replicate m 255)) h.bi.dd (by omega) (by rw[ln];simp) (by simp) (by rw[hO,hk]) (by rw[hk];exact eO) h.ji (g+1) K hK (by rw[hk];exact hm)
  refine⟨s',fb g++(a8 l++List.replicate m 255),?_,⟨?_,by rw[k1,hk],a1,.inl rfl,zT,by omega,.inr (by rw[gD];simp only;omega),eO⟩⟩
  ·rw[show(1 - 1)*c=0 by omega];exact e
  ·rw[hk] at b
   simp only[show(1 - 1:Nat)=0 from rfl,Nat.zero_mul]
   exact b
end Go.Proofs.YtpbpiehcchannaaGreatDoor
namespace Go.Proofs.YtpbpiehcchannaaGreatDoor
set_option linter.unusedVariables false
set_option linter.unusedSimpArgs false
def dh(l:List RK):List RK:=l.filter fun r=>r.lv
def jn(l:List RK):Prop:=((dh l).map fun r=>r.key).Nodup
theorem mT(l:List RK)(key:List UInt8):∀(n:Nat)(j:Nat),eQ l key n=(j:Int)→j<n∧(l.getD j bl).lv=true∧(l.getD j bl).key=key
 | 0,j,h=>by simp only[eQ] at h;omega
 | n+1,j,h=>by
  rw[eQ] at h
  split at h
  ·rename_i q
   obtain rfl:n=j:=by omega
   exact⟨Nat.lt_succ_self _,q.1,q.2⟩
  ·obtain⟨h1,h2⟩:=mT l key n j h
   exact⟨by omega,h2⟩
theorem E7(l:List RK)(key:List UInt8):∀(n:Nat),eQ l key n<0→∀i,i<n→¬((l.getD i bl).lv=true∧(l.getD i bl).key=key)
 | 0,h,i,hi=>absurd hi (Nat.not_lt_zero i)
 | n+1,h,i,hi=>by
  rw[eQ] at h
  split at h
  ·omega
  ·rename_i q
   rcases Nat.lt_or_eq_of_le (Nat.le_of_lt_succ hi) with h1 | h1
   ·exact E7 l key n h i h1
   ·rw[h1];exact q
theorem zU(a b:List RK):dh (a++b)=dh a++dh b:=by simp[dh]
theorem zV{l1 l2:List RK}{x:RK}(hx:x.lv=true)(hN:jn (l1++x::l2)):dh (l1++⟨x.key,x.val,false⟩::l2)=(dh (l1++x::l2)).filter fun r=>r.key !=x.key:=by
 have e:dh (l1++x::l2)=dh l1++x::dh l2:=by simp[dh,hx]
 have e2:dh (l1++⟨x.key,x.val,false⟩::l2)=dh l1++dh l2:=by simp[dh]
 unfold jn at hN
 rw[e,List.map_append,List.map_cons,List.nodup_append,List.nodup_cons] at hN
 obtain⟨h1,⟨h2,h3⟩,h4⟩:=hN
 rw[e,e2,List.filter_append,List.filter_cons_of_neg (by simp)]
 congr 1
 ·symm
  rw[List.filter_eq_self]
  intro r hr
  have:=h4 r.key (List.mem_map.2 ⟨r,hr,rfl⟩) x.key (List.mem_cons_self ..)
  simpa using this
 ·symm
  rw[List.filter_eq_self]
  intro r hr
  have:r.key≠x.key:=fun q=>h2 (by rw[←q];exact List.mem_map.2 ⟨r,hr,rfl⟩)
  simpa using this
theorem Mb{l:List RK}{key:List UInt8}(h:∀r∈l,¬(r.lv=true∧r.key=key)):(dh l).filter (fun r=>r.key !=key)=dh l:=by
 rw[List.filter_eq_self]
 intro r hr
 have bb:=List.mem_filter.1 hr
 have:=h r bb.1
 have h2:r.key≠key:=fun q=>this ⟨bb.2,q⟩
 simpa using h2
theorem Mc{M:List RK}{key val:List UInt8}(hN:(M.map fun r:RK=>r.key).Nodup):((List.filter (fun r:RK=>r.key !=key) M++[(⟨key,val,true⟩:RK)]).map fun r:RK=>r.key).Nodup:=by
 rw[List.map_append,List.nodup_append]
 refine⟨?_,by simp,?_⟩
 ·exact hN.sublist (List.Sublist.map _ List.filter_sublist)
 ·intro a ha b hb
  simp only[List.map_cons,List.map_nil,List.mem_singleton] at hb
  obtain⟨r,hr,rfl⟩:=List.mem_map.1 ha
  have:=(List.mem_filter.1 hr).2
  subst hb
  simpa using this
theorem zW{l:List RK}(hN:jn l){n:Nat}(hn:n<l.length):dV l n=l[n].lv:=by
 have hg:l.getD n bl=l[n]:=by rw[List.getD_eq_getElem?_getD,List.getElem?_eq_getElem hn];rfl
 unfold dV
 rw[hg]
 cases hv:l[n].lv with
 | true=>
  rw[decide_eq_true_iff]
  have hle:∀m:Nat,n<m→m≤l.length→eQ l l[n].key m=(n:Int):=by
   intro m
   induction m with
   | zero=>intro h1;omega
   | succ m Md=>
    intro h1 h2
    rw[eQ]
    by_cases zn:m=n
    ·subst zn
     rw[hg,if_pos ⟨hv,rfl⟩]
    ·have hm:m<l.length:=by omega
     have Me:l.getD m bl=l[m]:=by rw[List.getD_eq_getElem?_getD,List.getElem?_eq_getElem hm];rfl
     rw[Me,if_neg,Md (by omega) (by omega)]
     rintro⟨q1,q2⟩
     have hs:l=l.take m++l[m]::l.drop (m+1):=by rw[List.getElem_cons_drop,List.take_append_drop]
     have e:dh l=dh (l.take m)++l[m]::dh (l.drop (m+1)):=by
      have e0:=congrArg dh hs
      rw[zU] at e0
      have e1:dh (l[m]::l.drop (m+1))=l[m]::dh (l.drop (m+1)):=List.filter_cons_of_pos q1
      rw[e1] at e0
      exact e0
     unfold jn at hN
     rw[e,List.map_append,List.map_cons,List.nodup_append] at hN
     refine hN.2.2 l[n].key ?_ l[m].key (List.mem_cons_self ..) q2.symm
     refine List.mem_map.2 ⟨l[n],List.mem_filter.2 ⟨?_,hv⟩,rfl⟩
     exact List.mem_iff_getElem.2 ⟨n,by rw[List.length_take];omega,by rw[List.getElem_take]⟩
  exact hle l.length hn (Nat.le_refl _)
 | false=>
  rw[decide_eq_false_iff_not]
  intro q
  have:=(mT l l[n].key l.length n q).2.1
  rw[hg,hv] at this
  cases this
theorem zX{l:List RK}(hN:jn l):∀n:Nat,n≤l.length→((dI l n).map fun j=>l.getD j bl)=dh (l.take n)
 | 0,_=>by simp[dI,dh]
 | n+1,h=>by
  have ih:=zX hN n (by omega)
  have hn:n<l.length:=by omega
  have hg:l.getD n bl=l[n]:=by rw[List.getD_eq_getElem?_getD,List.getElem?_eq_getElem hn];rfl
  rw[re,List.map_append,ih,List.take_succ_eq_append_getElem hn,zU]
  congr 1
  have key:dV l n=l[n].lv:=zW hN hn
  rw[key]
  cases hv:l[n].lv with
  | true=>
   rw[if_pos rfl,List.map_cons,List.map_nil,hg]
   simp[dh,hv]
  | false=>simp[dh,hv]
theorem Mf{l:List RK}(hN:jn l):bm l=dh l:=by
 have:=zX hN l.length (Nat.le_refl _)
 rw[List.take_length] at this
 exact this
def NM(s:J)(c k:Nat)(G:Int)(M:List RK):Prop:=∃i g l m O,NG s c k i g l m O∧g≤G∧dh (l.map an)=M∧jn (l.map an)∧(∀r∈M,th r)
def rh(M:List RK)(key val:List UInt8):List RK:=M.filter (fun r=>r.key !=key)++[⟨key,val,true⟩]
theorem Mg{l:List Rc}{key val:List UInt8}{p:Nat}(hN:jn (l.map an)):dh ((ma l (aJ (l.map an) key)++[(⟨key,val,true,p⟩:Rc)]).map an)=rh (dh (l.map an)) key val:=by
 rw[List.map_append,zU]
 unfold rh
 congr 1
 have ai:=n4 (l.map an) key (l.map an).length
 rw[List.length_map] at ai
 have hL:aJ (l.map an) key=eQ (l.map an) key l.length:=by unfold aJ;rw[List.length_map]
 rw[hL]
 by_cases h0:0≤eQ (l.map an) key l.length
 ·obtain⟨j,hj⟩:∃j:Nat,eQ (l.map an) key l.length=(j:Int):=⟨(eQ (l.map an) key l.length).toNat,by omega⟩
  obtain⟨j1,j2,j3⟩:=mT _ _ _ _ hj
  rw[hj]
  obtain⟨l1,x,l2,rfl,rfl⟩:∃l1 d l2,l=l1++d::l2∧l1.length=j:=⟨l.take j,l[j],l.drop (j+1),by rw[List.getElem_cons_drop,List.take_append_drop],by rw[List.length_take];omega⟩
  have hx:((l1++x::l2).map an).getD l1.length bl=an x:=by
   rw[List.getD_eq_getElem?_getD,List.getElem?_map,List.getElem?_append_right (Nat.le_refl _),Nat.sub_self];rfl
  rw[hx] at j2 j3
  have pH:ma (l1++x::l2) (l1.length:Int)=l1++x.die::l2:=by
   unfold ma
   rw[if_pos (by omega),Int.toNat_natCast,List.set_append_right _ _ (Nat.le_refl _),Nat.sub_self,List.set_cons_zero,List.getD_eq_getElem?_getD,List.getElem?_append_right (Nat.le_refl _),Nat.sub_self]
   rfl
  rw[pH]
  rw[List.map_append,List.map_cons] at hN⊢
  have:=zV j2 hN
  rw[←j3,List.map_append,List.map_cons,←this]
  rfl
 ·have pH:ma l (eQ (l.map an) key l.length)=l:=by unfold ma;rw[if_neg h0]
  rw[pH]
  symm
  refine Mb fun r hr=> ?_
  obtain⟨j,hj,rfl⟩:=List.getElem_of_mem hr
  have:=E7 (l.map an) key l.length (by omega) j (by rw[List.length_map] at hj;exact hj)
  rw[List.getD_eq_getElem?_getD,List.getElem?_eq_getElem hj] at this
  exact this
theorem NM.set {s : J} {c k : Nat} {G : Int} {M : List RK} (h : NM s c k G M) (qR : 0 < k) (hG : G < 4294967295) {key val : List UInt8} (hk : 1 ≤ key.length ∧ key.length ≤ 255) (hv : val.length ≤ 65536) :
    (c*k - 16<bw M+(12+key.length+val.length)→s.set c key val=(5,s))∧
    (bw M+(12+key.length+val.length)≤c*k - 16→∃s',s.set c key val=(0,s')∧NM s' c k (G+1) (rh M key val)):=by
 obtain⟨i,g,l,m,O,hn,ri,hM,hN,hK⟩:=h
 have eO:=hn.fa
 have cC:=hn.hk
 have vQ:=hn.bi.n
 rw[cC] at vQ
 have cq:(c:Int)*(s.k:Int)=((c*k:Nat):Int):=by rw[cC];simp
 have cE:bm (l.map an)=M:=(Mf hN).trans hM
 have jy:s.set c key val=if(c:Int)*s.k - 16<bw M+(12+key.length+val.length) then(5,s) else if(true:Bool)=false∨(c:Int)*s.k - 16+16 - ((16+(a8 l).length:Nat):Int)<12+key.length+val.length then(if(s.copy c M).1=0 then(if(s.copy c M).2.dd=true then(6,(s.copy c M).2) else(s.copy c M).2.put c key val) else s.copy c M) else s.put c key val:=by
  unfold J.set
  rw[if_neg (by omega),hn.bi.dd,hn.au,hn.be,cE]
  simp only[Bool.false_eq_true,if_false]
 rw[jy]
 constructor
 ·intro hf
  rw[if_pos (by omega)]
 ·intro hf
  rw[if_neg (by omega)]
  have fin:∀{t:J}{i':Nat}{g':Int}{l':List Rc}{m':Nat}{O':List UInt8},NG t c k i' g' l' m' O'→g'≤G+1→dh (l'.map an)=M→jn (l'.map an)→12+key.length+val.length≤m'→∃s',t.put c key val=(0,s')∧NM s' c k (G+1) (rh M key val):=by
   intro t i' g' l' m' O' ht Mh bu vR eX
   obtain⟨s',d,e1,rfl,e2⟩:=ht.put hk hv eX
   have dG:=Mg (l:=l') (key:=key) (val:=val) (p:=16+(a8 l').length) vR
   rw[bu] at dG
   refine⟨s',e1,i',g',_,_,O',e2,Mh,dG,?_,?_⟩
   ·unfold jn
    rw[dG]
    unfold jn at vR
    rw[bu] at vR
    exact Mc vR
   ·intro r hr
    unfold rh at hr
    rcases List.mem_append.1 hr with h1 | h1
    ·exact hK r (List.mem_filter.1 h1).1
    ·rw[List.mem_singleton] at h1
     subst h1
     exact⟨hk,hv⟩
  by_cases hc:(c:Int)*s.k - 16+16 - ((16+(a8 l).length:Nat):Int)<12+key.length+val.length
  ·rw[if_pos (.inr hc)]
   obtain⟨t,O',e1,e2⟩:=hn.copy qR (by omega) M hK (by omega)
   rw[e1,if_pos rfl,if_neg (by rw[e2.bi.dd];simp)]
   have rj:∀r∈M,r.lv=true:=by
    intro r hr
    rw[←hM] at hr
    exact(List.mem_filter.1 hr).2
   have E8:=E5 M 16 rj
   have E9:dh M=M:=by
    unfold dh
    rw[List.filter_eq_self]
    exact rj
   refine fin e2 (by omega) (by rw[E8,E9]) ?_ (by omega)
   rw[E8]
   unfold jn
   rw[E9]
   unfold jn at hN
   rw[hM] at hN
   exact hN
  ·rw[if_neg (fun q=>by rcases q with q | q;cases q;exact hc q)]
   exact fin hn (by omega) hM hN (by omega)
end Go.Proofs.YtpbpiehcchannaaGreatDoor
namespace Go.Proofs.YtpbpiehcchannaaGreatDoor
set_option linter.unusedVariables false
set_option linter.unusedSimpArgs false
theorem Fa{s:J}{a c:Nat}{l:List RK}(hN:jn l):∀(m k:Nat),k+m=l.length→s.dc a c l k m=(0,s)
 | 0,k,h=>rfl
 | m+1,k,h=>by
  have hk:k<l.length:=by omega
  have hg:l.getD k bl=l[k]:=by rw[List.getD_eq_getElem?_getD,List.getElem?_eq_getElem hk];rfl
  rw[J.dc,if_neg,Fa hN m (k+1) (by omega)]
  rintro⟨q1,q2⟩
  have h1:=zW hN hk
  rw[hg] at q1 q2
  rw[q1] at h1
  unfold dV at h1
  rw[hg,decide_eq_true_iff] at h1
  exact q2 h1
theorem NM.tidy{s:J}{c k:Nat}{G:Int}{M:List RK}(h:NM s c k G M):s.tidy c=(0,s):=by
 obtain⟨i,g,l,m,O,hn,ri,hM,hN,hK⟩:=h
 unfold J.tidy
 rw[hn.bi.dd,hn.au,if_neg (by simp)]
 exact Fa hN _ 0 (by omega)
theorem NM.bg{s:J}{c k:Nat}{G:Int}{M:List RK}(h:NM s c k G M):s.bg c=(0,s):=by
 have ht:=h.tidy
 obtain⟨i,g,l,m,O,hn,ri,hM,hN,hK⟩:=h
 unfold J.bg
 rw[hn.bi.dd,if_neg (by simp),hn.aI,if_neg (by simp),ht]
theorem NM.live{s:J}{c k:Nat}{G:Int}{M:List RK}(h:NM s c k G M):s.dd=false:=by
 obtain⟨i,g,l,m,O,hn,_⟩:=h
 exact hn.bi.dd
theorem zY(n:Nat):(List.replicate (n+1) (255:UInt8)).head? =some 255:=rfl
theorem Mi(n:Nat)(h:16≤n):(ll (List.replicate n 255)).2=false:=by
 have h1:=zE (s:=⟨List.replicate n 255,0,0,0,false,0⟩) (a:=0) (P:=[]) (X:=List.replicate n 255) (Q:=[]) rfl (by simp) (by simp) (by simpa using h) (.inl (by obtain⟨m,rfl⟩:∃m,n=m+1:=⟨n - 1,by omega⟩;exact zY m))
 have h2:=vO (s:=⟨List.replicate n 255,0,0,0,false,0⟩) (a:=0) (O:=List.replicate n 255) rfl (by simp)
 rw[h2] at h1
 exact h1.1
theorem NM.new{c k:Nat}(hk:0<k)(eO:64≤c*k):∃s,(J.new (2*c) k).b6 0 c 1 []=(0,s)∧(J.new (2*c) k).bg c=(0,s)∧NM s c k 1 []:=by
 have hl:(J.new (2*c) k).l=[]++(List.replicate (c*k) 255++List.replicate (c*k) 255):=by
  show List.replicate (2*c*k) 255=_
  rw[List.nil_append,List.replicate_append_replicate]
  congr 1
  rw[Nat.mul_assoc];omega
 obtain⟨s,e,b,k1,a1⟩:=zS (s:=J.new (2*c) k) (a:=0) (c:=c) (P:=[]) rfl hk hl (by simp) (by simp;rfl) eO rfl 1 [] (by simp) (Nat.zero_le _)
 have Mj:((J.new (2*c) k).head 0).2.1=false:=(zE (a:=0) (P:=[]) (X:=List.replicate (c*k) 255) (Q:=List.replicate (c*k) 255) rfl hl (by simp) (by simp;omega) (.inl (by obtain⟨m,hm⟩:∃m,c*k=m+1:=⟨c*k - 1,by omega⟩;rw[hm];exact zY m))).1
 have Mk:((J.new (2*c) k).head c).2.1=false:=(zE (a:=c) (P:=List.replicate (c*k) 255) (X:=List.replicate (c*k) 255) (Q:=[]) rfl (by rw[hl];simp) (by simp;rfl) (by simp;omega) (.inl (by obtain⟨m,hm⟩:∃m,c*k=m+1:=⟨c*k - 1,by omega⟩;rw[hm];exact zY m))).1
 have hc:((J.new (2*c) k).aI c).2.2=false:=by
  unfold J.aI
  rw[if_neg (fun q=>by rw[Mk] at q;cases q.1)]
  exact Mj
 have hM:NM s c k 1 []:=by
  refine⟨0,1,[],c*k - 16,List.replicate (c*k) 255,⟨?_,k1,a1,.inl rfl,by simp,by decide,.inl (Mi _ (by omega)),eO⟩,by decide,rfl,List.nodup_nil,by simp⟩
  rw[Nat.zero_mul]
  exact b
 refine⟨s,e,?_,hM⟩
 unfold J.bg
 rw[if_neg (by simp[J.new]),if_pos hc,e,if_pos rfl,hM.tidy]
theorem NM.look {s : J} {c k : Nat} {G : Int} {M : List RK} (h : NM s c k G M) : ∃ (i : Nat) (l : List Rc) (e : Nat), (i = 0 ∨ i = 1) ∧ (s.aI c).1 = i ∧ s.scan (i * c) c = (l, e, true) ∧
    (∀key:List UInt8,(∀r∈M,r.key≠key)→aJ (l.map an) key<0)∧
    (∀r∈M,∃(j:Nat)(d:Rc),l[j]? =some d∧aJ (l.map an) r.key=(j:Int)∧d.val=r.val):=by
 obtain⟨i,g,l,m,O,hn,ri,hM,hN,hK⟩:=h
 refine⟨i,l,_,hn.hi,by rw[hn.aI],hn.bi.scan,fun key hk=> ?_,fun r hr=> ?_⟩
 ·have ai:=n4 (l.map an) key (l.map an).length
  refine Int.not_le.1 fun h0=> ?_
  obtain⟨j,hj⟩:∃j:Nat,aJ (l.map an) key=(j:Int):=⟨(aJ (l.map an) key).toNat,by omega⟩
  obtain⟨j1,j2,j3⟩:=mT _ _ _ _ hj
  have hg:(l.map an).getD j bl=(l.map an)[j]:=by rw[List.getD_eq_getElem?_getD,List.getElem?_eq_getElem j1];rfl
  rw[hg] at j2 j3
  refine hk (l.map an)[j] ?_ j3
  rw[←hM]
  exact List.mem_filter.2 ⟨List.getElem_mem _,j2⟩
 ·rw[←hM] at hr
  obtain⟨h1,h2⟩:=List.mem_filter.1 hr
  obtain⟨j,hj,fq⟩:=List.getElem_of_mem h1
  have pF:j<l.length:=by rw[List.length_map] at hj;exact hj
  have dM:=zW hN hj
  rw[fq,h2] at dM
  unfold dV at dM
  rw[List.getD_eq_getElem?_getD,List.getElem?_eq_getElem hj,decide_eq_true_iff,Option.getD_some,fq] at dM
  refine⟨j,l[j],List.getElem?_eq_getElem pF,dM,?_⟩
  rw[←fq,List.getElem_map]
  rfl
end Go.Proofs.YtpbpiehcchannaaGreatDoor
namespace Go.Proofs.YtpbpiehcchannaaGreatDoor
set_option linter.unusedVariables false
set_option linter.unusedSimpArgs false
/-! the order of bytes -/
def bQ(a b:List UInt8):Bool:=Op.bytesLess a b
theorem vS(x y:UInt8)(a b:List UInt8):bQ (x::a) (y::b)=(decide (x<y)||(x==y&&bQ a b)):=rfl
theorem zZ:∀a:List UInt8,bQ a a=false
 | []=>rfl
 | x::a=>by rw[vS,zZ a];simp
theorem rk:∀{a b c:List UInt8},bQ a b=true→bQ b c=true→bQ a c=true
 | a,[],c,h,_=>by cases a<;>cases h
 | a,y::b,[],_,h=>by cases h
 | [],y::b,z::c,_,_=>rfl
 | x::a,y::b,z::c,h1,h2=>by
  rw[vS,Bool.or_eq_true,Bool.and_eq_true,decide_eq_true_eq,beq_iff_eq] at h1 h2⊢
  rcases h1 with h1 | ⟨rfl,h1⟩
  ·rcases h2 with h2 | ⟨rfl,h2⟩
   ·exact .inl (UInt8.lt_trans h1 h2)
   ·exact .inl h1
  ·rcases h2 with h2 | ⟨rfl,h2⟩
   ·exact .inl h2
   ·exact .inr ⟨rfl,rk h1 h2⟩
theorem rm:∀(a b:List UInt8),bQ a b=false→bQ b a=false→a=b
 | [],[],_,_=>rfl
 | [],_::_,h,_=>by cases h
 | _::_,[],_,h=>by cases h
 | x::a,y::b,h1,h2=>by
  rw[vS] at h1 h2
  simp only[Bool.or_eq_false_iff,Bool.and_eq_false_iff,decide_eq_false_iff_not,beq_eq_false_iff_ne,ne_eq] at h1 h2
  have vp:x=y:=by
   by_cases q:x=y
   ·exact q
   ·rcases UInt8.lt_or_lt_of_ne q with q | q
    ·exact absurd q h1.1
    ·exact absurd q h2.1
  subst vp
  have e:=rm a b (by rcases h1.2 with q | q;exact absurd rfl q;exact q) (by rcases h2.2 with q | q;exact absurd rfl q;exact q)
  rw[e]
theorem Fb{a b:List UInt8}(h:bQ a b=true):bQ b a=false:=by
 cases q:bQ b a with
 | false=>rfl
 | true=>have:=rk h q;rw[zZ] at this;cases this
theorem rn:∀(a b:List UInt8),decide (Lib.compareBytes a b<0)=bQ a b
 | [],[]=>rfl
 | [],_::_=>rfl
 | _::_,[]=>rfl
 | x::a,y::b=>by
  rw[vS,Lib.compareBytes]
  by_cases h1:x<y
  ·rw[if_pos h1];simp[h1]
  ·rw[if_neg h1]
   by_cases h2:y<x
   ·rw[if_pos h2]
    have:¬x=y:=fun e=>by subst e;exact UInt8.lt_irrefl _ h2
    simp[h1,this]
   ·rw[if_neg h2,rn a b]
    have:x=y:=by
     by_cases q:x=y
     ·exact q
     ·rcases UInt8.lt_or_lt_of_ne q with q | q
      ·exact absurd q h1
      ·exact absurd q h2
    simp[h1,this]
/-! records, rising by their keys -/
def tj(R:List RK):Prop:=R.Pairwise fun x y=>bQ x.key y.key=true
structure RM(M R:List RK):Prop where
 perm:R.Perm M
 sort:tj R
theorem Ml{a b:List RK}(h:a.Perm b):bw a=bw b:=by
 induction h with
 | nil=>rfl
 | cons x _ ih=>simp only[bw,ih]
 | swap x y l=>simp only[bw];omega
 | trans _ _ Mm Mn=>rw[Mm,Mn]
theorem RM.used{M R:List RK}(h:RM M R):bw R=bw M:=Ml h.perm
theorem RM.nil:RM [] []:=⟨List.Perm.nil,List.Pairwise.nil⟩
def mU(R:List RK)(key:List UInt8):List RK:=R.filter fun r=>r.key !=key
theorem RM.del{M R:List RK}(h:RM M R)(key:List UInt8):RM (M.filter fun r=>r.key !=key) (mU R key):=⟨h.perm.filter _,h.sort.sublist List.filter_sublist⟩
def mV(R:List RK)(x:RK):List RK:=R.takeWhile (fun r=>bQ r.key x.key)++x::R.dropWhile (fun r=>bQ r.key x.key)
theorem tn(R:List RK)(x:RK):(mV R x).Perm (R++[x]):=by
 unfold mV
 have h:(R.takeWhile (fun r=>bQ r.key x.key)++R.dropWhile (fun r=>bQ r.key x.key))=R:=List.takeWhile_append_dropWhile
 have h2:(R.takeWhile (fun r=>bQ r.key x.key)++x::R.dropWhile (fun r=>bQ r.key x.key)).Perm (x::(R.takeWhile (fun r=>bQ r.key x.key)++R.dropWhile (fun r=>bQ r.key x.key))):=List.perm_middle
 rw[h] at h2
 exact h2.trans (List.perm_append_comm (l₁:=[x]) (l₂:=R))
theorem z6:∀{R:List RK}{x:RK},tj R→(∀r∈R,r.key≠x.key)→tj (mV R x)
 | [],x,_,_=>List.pairwise_singleton _ _
 | r::R,x,h,aF=>by
  unfold tj at h⊢
  rw[List.pairwise_cons] at h
  unfold mV
  cases q:bQ r.key x.key with
  | true=>
   rw[List.takeWhile_cons_of_pos (p:=fun r:RK=>bQ r.key x.key) q,List.dropWhile_cons_of_pos (p:=fun r:RK=>bQ r.key x.key) q,List.cons_append,List.pairwise_cons]
   refine⟨fun y hy=> ?_,z6 (R:=R) h.2 fun z hz=>aF z (List.mem_cons_of_mem _ hz)⟩
   have hm:=(tn R x).mem_iff.1 hy
   rcases List.mem_append.1 hm with hm | hm
   ·exact h.1 y hm
   ·rw[List.mem_singleton] at hm;subst hm;exact q
  | false=>
   rw[List.takeWhile_cons_of_neg (p:=fun r:RK=>bQ r.key x.key) (by simp[q]),List.dropWhile_cons_of_neg (p:=fun r:RK=>bQ r.key x.key) (by simp[q]),List.nil_append,List.pairwise_cons,List.pairwise_cons]
   have hx:bQ x.key r.key=true:=by
    cases q2:bQ x.key r.key with
    | true=>rfl
    | false=>exact absurd (rm _ _ q q2) (aF r (List.mem_cons_self ..))
   refine⟨fun y hy=> ?_,h.1,h.2⟩
   rcases List.mem_cons.1 hy with rfl | hy
   ·exact hx
   ·exact rk hx (h.1 y hy)
def vT(R:List RK)(key val:List UInt8):List RK:=mV (mU R key) ⟨key,val,true⟩
theorem RM.set{M R:List RK}(h:RM M R)(key val:List UInt8):RM (rh M key val) (vT R key val):=by
 have hd:=h.del key
 refine⟨(tn _ _).trans (hd.perm.append_right _),z6 hd.sort fun r hr=> ?_⟩
 have:=(List.mem_filter.1 hr).2
 simpa using this
theorem RM.keys{M R:List RK}(h:RM M R):(M.map fun r=>r.key).mergeSort (fun x y=> !bQ y x)=R.map fun r=>r.key:=by
 have mG:∀(a b c:List UInt8),(!bQ b a)=true→(!bQ c b)=true→(!bQ c a)=true:=by
  intro a b c h1 h2
  simp only[Bool.not_eq_true'] at h1 h2⊢
  cases q:bQ c a with
  | false=>rfl
  | true=>
   cases q1:bQ a b with
   | true=>have:=rk q q1;rw[this] at h2;cases h2
   | false=>
    have:=rm a b q1 h1
    subst this
    rw[q] at h2;cases h2
 have z7:∀(a b:List UInt8),((!bQ b a)||(!bQ a b))=true:=by
  intro a b
  cases q:bQ b a with
  | false=>rfl
  | true=>rw[Fb q];rfl
 have hs:(R.map fun r=>r.key).Pairwise fun x y=>(!bQ y x)=true:=by
  rw[List.pairwise_map]
  exact h.sort.imp fun{a b} q=>by rw[Fb q];rfl
 have e:=List.mergeSort_of_pairwise hs
 have hp:(M.map fun r=>r.key).Perm (R.map fun r=>r.key):=(h.perm.map _).symm
 have s1:=List.pairwise_mergeSort mG z7 (M.map fun r=>r.key)
 refine List.Perm.eq_of_pairwise (le:=fun x y=>(!bQ y x)=true) (fun a b _ _ h1 h2=> ?_) s1 hs ((List.mergeSort_perm _ _).trans hp)
 simp only[Bool.not_eq_true'] at h1 h2
 exact(rm a b h2 h1)
theorem NM.del {s : J} {c k : Nat} {G : Int} {M : List RK} (h : NM s c k G M) (key : List UInt8) :
    ((∀r∈M,r.key≠key)→s.del c key=(3,s))∧((∃r∈M,r.key=key)→∃s',s.del c key=(0,s')∧NM s' c k G (M.filter fun r=>r.key !=key)):=by
 have hl:=h.look
 obtain⟨i,g,l,m,O,hn,ri,hM,hN,hK⟩:=h
 have te:s.del c key=if aJ (l.map an) key<0 then(3,s) else s.kill (i*c) c (aJ (l.map an) key):=by
  unfold J.del
  rw[hn.bi.dd,hn.au,hn.aI,if_neg (by simp)]
 obtain⟨i',l',e',bG,sG,nv,l6,Mo⟩:=hl
 have ei:i'=i:=by rw[←sG,hn.aI]
 subst ei
 have el:l'=l:=by
  have:=hn.bi.scan
  rw[nv] at this
  exact(Prod.mk.inj this).1
 subst el
 rw[te]
 constructor
 ·intro hk
  rw[if_pos (l6 key hk)]
 ·rintro⟨r,hr,rfl⟩
  obtain⟨j,d,hj,lL,hv⟩:=Mo r hr
  rw[lL,if_neg (by omega)]
  obtain⟨j1,j2,j3⟩:=mT _ _ _ _ lL
  obtain⟨iN,rfl⟩:=List.getElem?_eq_some_iff.1 hj
  obtain⟨l1,x,l2,hl,fD⟩:∃l1 d l2,l'=l1++d::l2∧l1.length=j:=⟨l'.take j,l'[j],l'.drop (j+1),by rw[List.getElem_cons_drop,List.take_append_drop],by rw[List.length_take];omega⟩
  subst hl
  subst fD
  have hx:((l1++x::l2).map an).getD l1.length bl=an x:=by
   rw[List.getD_eq_getElem?_getD,List.getElem?_map,List.getElem?_append_right (Nat.le_refl _),Nat.sub_self];rfl
  rw[hx] at j2 j3
  have hb:=hn.bi
  obtain⟨s2,e2,b2,k2,a2⟩:=hb.Er (by have:=hn.ji;omega)
  refine⟨s2,e2,i',g,_,m,O,⟨b2,by rw[k2,hn.hk],by rw[a2,hn.ji];rfl,hn.hi,hn.hO,hn.hg,hn.tg,hn.fa⟩,ri,?_,?_,?_⟩
  ·rw[←hM,List.map_append,List.map_cons]
   rw[List.map_append,List.map_cons] at hN
   have:=zV j2 hN
   rw[←j3,List.map_append,List.map_cons,←this]
   rfl
  ·unfold jn at hN⊢
   rw[List.map_append,List.map_cons] at hN⊢
   have:=zV j2 hN
   rw[show an x.die=⟨(an x).key,(an x).val,false⟩ from rfl,this]
   exact hN.sublist (List.Sublist.map _ List.filter_sublist)
  ·intro y hy
   exact hK y (List.mem_filter.1 hy).1
end Go.Proofs.YtpbpiehcchannaaGreatDoor
namespace Go.Proofs.YtpbpiehcchannaaGreatDoor
set_option linter.unusedVariables false
set_option linter.unusedSimpArgs false
theorem Fc{l:List RK}{r:RK}(hr:r∈bm l):∃j:Nat,j<l.length∧l.getD j bl=r∧aJ l r.key=(j:Int):=by
 unfold bm at hr
 obtain⟨j,hj,rfl⟩:=List.mem_map.1 hr
 obtain⟨h1,h2⟩:=List.mem_filter.1 hj
 exact⟨j,List.mem_range.1 h1,rfl,of_decide_eq_true h2⟩
theorem Mp{l:List RK}{key:List UInt8}(h:∀r∈bm l,r.key≠key):aJ l key<0:=by
 refine Int.not_le.1 fun h0=> ?_
 obtain⟨j,hj⟩:∃j:Nat,aJ l key=(j:Int):=⟨(aJ l key).toNat,by omega⟩
 obtain⟨j1,j2,j3⟩:=mT _ _ _ _ hj
 refine h (l.getD j bl) (List.mem_map.2 ⟨j,List.mem_filter.2 ⟨List.mem_range.2 j1,?_⟩,rfl⟩) j3
 unfold dV
 rw[j3,hj]
 simp
structure LK(s:J)(c:Nat)(M:List RK):Prop where
 live:s.dd=false
 kept:∃(i:Nat)(l:List Rc)(e:Nat)(b:Bool),(i=0∨i=1)∧(s.aI c).1=i∧s.scan (i*c) c=(l,e,b)∧bm (l.map an)=M
theorem LK.look {s : J} {c : Nat} {M : List RK} (h : LK s c M) : ∃ (i : Nat) (l : List Rc) (e : Nat) (b : Bool), (i = 0 ∨ i = 1) ∧ (s.aI c).1 = i ∧ s.scan (i * c) c = (l, e, b) ∧
    (∀key:List UInt8,(∀r∈M,r.key≠key)→aJ (l.map an) key<0)∧
    (∀r∈M,∃(j:Nat)(d:Rc),l[j]? =some d∧aJ (l.map an) r.key=(j:Int)∧d.val=r.val):=by
 obtain⟨i,l,e,b,hi,hc,hS,hk⟩:=h.kept
 refine⟨i,l,e,b,hi,hc,hS,fun key hx=>Mp (by rw[hk];exact hx),fun r hr=> ?_⟩
 rw[←hk] at hr
 obtain⟨j,h1,h2,h3⟩:=Fc hr
 have hj:j<l.length:=by rw[List.length_map] at h1;exact h1
 refine⟨j,l[j],List.getElem?_eq_getElem hj,h3,?_⟩
 rw[←h2,List.getD_eq_getElem?_getD,List.getElem?_map,List.getElem?_eq_getElem hj]
 rfl
theorem NM.lk{s:J}{c k:Nat}{G:Int}{M:List RK}(h:NM s c k G M):LK s c M:=by
 have hl:=h.live
 obtain⟨i,g,l,m,O,hn,ri,hM,hN,hK⟩:=h
 refine⟨hl,i,l,_,true,hn.hi,by rw[hn.aI],hn.bi.scan,?_⟩
 unfold bm
 rw[zX hN _ (Nat.le_refl _),List.take_length,hM]
end Go.Proofs.YtpbpiehcchannaaGreatDoor
