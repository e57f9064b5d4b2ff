/- A store without losses of power: the plain law. A store without losses of power is a map: the plain law. Opening a store, and asking it: the plain law. What a store's look at its bank sees: the plain law. A store as a sorted map: the plain law. Conditions: the premises of each law. -/
import Derived.Test.YtpbpiehcchannaaGreatDoorJHd
import Derived.Lib.Bytealg
namespace Go.Proofs.YtpbpiehcchannaaGreatDoor
set_option linter.unusedVariables false
set_option linter.unusedSimpArgs false
def iy(O:List UInt8):Int×Bool:=if(O.take 16).take 12=cY (dG (((O.take 16).drop 4).take 4)) then((dG (((O.take 16).drop 4).take 4):Int),decide ((((O.take 16).getD 12 0).toNat:Int)=254)) else(0,false)
theorem s6{s:U}{a:Nat}{O:List UInt8}(hd:s.dd=false)(h:(s.l.drop (a*s.k)).take 16=O.take 16):s.head a=((iy O).1,(iy O).2,0):=by
 unfold U.head iy
 rw[hd,h,if_neg (by simp)]
 split<;>rfl
structure NG(s:U)(c k i:Nat)(g:Int)(l:List Rc)(m:Nat)(O:List UInt8):Prop where
 bi:BI s (i*c) c (if i=0 then[] else O) (dp g) l m (if i=0 then O else[])
 hk:s.k=k
 gp:s.ar=0
 hi:i=0∨i=1
 hO:O.length=c*k
 hg:0≤g∧g≤4294967295
 kg:(iy O).2=false∨(iy O).1<g
 big:64≤c*k
theorem Iq{s:U}{c i a:Nat}{g:Int}{r:Bool}(hc:s.a8 c=(i,g,r))(ha:i*c=a){l:List Rc}{e:Nat}{b:Bool}(hS:s.scan a c=(l,e,b)){key val:List UInt8}:s.put c key val=if(s.add a c key val).1=0 then(if 0≤aT (l.map aj) key then(s.add a c key val).2.kill a c (aT (l.map aj) key) else(0,(s.add a c key val).2)) else s.add a c key val:=by
 unfold U.put U.bw U.fg
 rw[hc,ha,hS]
section
variable {s:U} {c k i:Nat} {g:Int} {l:List Rc} {m:Nat} {O:List UInt8}
theorem NG.a8(h:NG s c k i g l m O):s.a8 c=(i,g,true):=by
 have hH:=qT g
 have fU:=h.bi.iJ
 have hn:=h.bi.n
 have hk:=h.hk
 have hO:=h.hO
 have hb:=h.big
 have hd:=h.bi.dd
 rcases h.hi with rfl | rfl
 ·simp only[if_true] at fU
  have h0:s.head 0=(g,true,0):=vJ (a:=0) (P:=[]) (Q:=aF l++(List.replicate m 255++O)) hd fU (by simp) h.hg
  have h1:s.head c=((iy O).1,(iy O).2,0):=s6 hd (by
   rw[fU,hk]
   have e:(dp g++(aF l++(List.replicate m 255++O)))=(dp g++(aF l++List.replicate m 255))++O:=by simp
   rw[List.nil_append,e,List.drop_left' (by simp only[List.length_append,List.length_replicate,hH];rw[hk] at hn;omega)])
  unfold U.a8
  rw[h0,h1,if_neg]
  intro q
  rcases h.kg with o | o
  ·rw[o] at q;cases q.1
  ·rcases q.2 with q | q
   ·cases q
   ·simp only at q;omega
 ·simp only[if_neg (by decide:¬(1:Nat)=0)] at fU
  have h1:s.head c=(g,true,0):=vJ (a:=c) (P:=O) (Q:=aF l++(List.replicate m 255++[])) hd fU (by rw[hO,hk]) h.hg
  have h0:s.head 0=((iy O).1,(iy O).2,0):=s6 hd (by
   rw[Nat.zero_mul,List.drop_zero,fU,List.take_append_of_le_length (by omega)])
  unfold U.a8
  rw[h0,h1,if_pos]
  refine⟨rfl,?_⟩
  rcases h.kg with o | o
  ·exact .inl o
  ·exact .inr o
theorem NG.fg(h:NG s c k i g l m O):s.fg c=(l,16+(aF l).length,true):=by
 unfold U.fg
 rw[h.a8]
 exact h.bi.scan
theorem NG.bw(h:NG s c k i g l m O):s.bw c=l.map aj:=by
 unfold U.bw
 rw[h.fg]
def kh(l:List Rc)(L:Int):List Rc:=if 0≤L then l.set L.toNat (l.getD L.toNat ⟨[],[],false,0⟩).die else l
theorem NG.put (h : NG s c k i g l m O) {key val : List UInt8} (hk : 1 ≤ key.length ∧ key.length ≤ 255) (hv : val.length ≤ 65536) (hm : 12 + key.length + val.length ≤ m) :
    ∃s' d,s.put c key val=(0,s')∧d=⟨key,val,true,16+(aF l).length⟩∧NG s' c k i g (kh l (aT (l.map aj) key)++[d]) (m - (12+key.length+val.length)) O:=by
 obtain⟨s1,e1,b1,k1,a1⟩:=h.bi.Cz (d:=⟨key,val,true,16+(aF l).length⟩) ⟨hk,hv⟩ rfl rfl hm (by have:=h.gp;omega)
 have sQ:s1.ar=0:=by rw[a1,h.gp];rfl
 have ah:=ot (l.map aj) key (l.map aj).length
 rw[List.length_map] at ah
 have hL:aT (l.map aj) key=dB (l.map aj) key l.length:=by unfold aT;rw[List.length_map]
 rw[←hL] at ah
 rw[Iq h.a8 rfl h.bi.scan,e1,if_pos rfl]
 generalize aT (l.map aj) key=L at ah
 by_cases h0:0≤L
 ·obtain⟨j,rfl⟩:∃j:Nat,L=(j:Int):=⟨L.toNat,by omega⟩
  have hj:j<l.length:=by omega
  obtain⟨l1,x,l2,rfl,rfl⟩:∃l1 d l2,l=l1++d::l2∧l1.length=j:=⟨l.take j,l[j],l.drop (j+1),by rw[List.getElem_cons_drop,List.take_append_drop],by rw[List.length_take];omega⟩
  rw[List.append_assoc,List.cons_append] at b1
  obtain⟨s2,e2,b2,k2,a2⟩:=b1.Hp (by omega)
  rw[if_pos h0,e2]
  have mE:kh (l1++x::l2) (l1.length:Int)=l1++x.die::l2:=by
   unfold kh
   rw[if_pos h0,Int.toNat_natCast,List.set_append_right _ _ (Nat.le_refl _),Nat.sub_self,List.set_cons_zero,List.getD_eq_getElem?_getD,List.getElem?_append_right (Nat.le_refl _),Nat.sub_self]
   rfl
  rw[mE]
  exact⟨s2,_,rfl,rfl,⟨by rw[List.append_assoc];exact b2,by rw[k2,k1,h.hk],by rw[a2,sQ];rfl,h.hi,h.hO,h.hg,h.kg,h.big⟩⟩
 ·rw[if_neg h0]
  have mE:kh l L=l:=by unfold kh;rw[if_neg h0]
  rw[mE]
  exact⟨s1,_,rfl,rfl,⟨b1,by rw[k1,h.hk],sQ,h.hi,h.hO,h.hg,h.kg,h.big⟩⟩
end
def jM:Nat→List RK→List Rc
 | _,[]=>[]
 | a,r::l=>⟨r.key,r.val,true,a⟩::jM (a+(12+r.key.length+r.val.length)) l
theorem C6:∀(K:List RK)(a:Nat),(∀r∈K,r.lv=true)→(jM a K).map aj=K
 | [],a,_=>rfl
 | r::K,a,h=>by
  rw[jM,List.map_cons,C6 K _ fun x hx=>h x (List.mem_cons_of_mem _ hx)]
  have:=h r (List.mem_cons_self ..)
  obtain⟨x,y,z⟩:=r
  simp only at this
  subst this
  rfl
def fJ(r:RK):Prop:=(1≤r.key.length∧r.key.length≤255)∧r.val.length≤65536
theorem BI.bV {a c : Nat} {P H Q : List UInt8} : ∀ (K : List RK) {s : U} {l : List Rc} {m : Nat}, BI s a c P H l m Q → s.ar = 0 → (∀ r ∈ K, fJ r) → aP K ≤ m →
    ∃s',s.bV a c K=(0,s')∧BI s' a c P H (l++jM (16+(aF l).length) K) (m - aP K) Q∧s'.k=s.k∧s'.ar=0
 | [],s,l,m,h,ha,_,_=>⟨s,rfl,by rw[jM,List.append_nil];exact h,rfl,ha⟩
 | r::K,s,l,m,h,ha,hK,hm=>by
  have hr:=hK r (List.mem_cons_self ..)
  simp only[aP] at hm
  obtain⟨s1,e1,b1,k1,a1⟩:=h.Cz (d:=⟨r.key,r.val,true,16+(aF l).length⟩) ⟨hr.1,hr.2⟩ rfl rfl (by show 12+r.key.length+r.val.length≤m;omega) (by omega)
  have sQ:s1.ar=0:=by rw[a1,ha];rfl
  obtain⟨s2,e2,b2,k2,a2⟩:=BI.bV K b1 sQ (fun x hx=>hK x (List.mem_cons_of_mem _ hx)) (by show aP K≤m - (12+r.key.length+r.val.length);omega)
  refine⟨s2,?_,?_,by rw[k2,k1],a2⟩
  ·show(if(s.add a c r.key r.val).1=0 then(s.add a c r.key r.val).2.bV a c K else s.add a c r.key r.val)=(0,s2)
   have jd:s.add a c r.key r.val=(0,s1):=e1
   rw[jd,if_pos rfl,e2]
  ·have el:(aF (l++[(⟨r.key,r.val,true,16+(aF l).length⟩:Rc)])).length=(aF l).length+(12+r.key.length+r.val.length):=by
     rw[pv,List.length_append]
     show(aF l).length+(aF [(⟨r.key,r.val,true,16+(aF l).length⟩:Rc)]).length=_
     simp only[aF,List.flatMap_cons,List.flatMap_nil,List.append_nil,nA]
     rfl
   rw[List.append_assoc,el] at b2
   have ep:jM (16+(aF l).length) (r::K)=⟨r.key,r.val,true,16+(aF l).length⟩::jM (16+((aF l).length+(12+r.key.length+r.val.length))) K:=by
    rw[jM,Nat.add_assoc]
   have em:m - aP (r::K)=m - bx ⟨r.key,r.val,true,16+(aF l).length⟩ - aP K:=by
    unfold bx;simp only[aP];omega
   rw[ep,em]
   exact b2
theorem PX {s : U} {a c : Nat} {P X Q : List UInt8} (hd : s.dd = false) (hk : 0 < s.k) (hl : s.l = P ++ (X ++ Q)) (hP : P.length = a * s.k) (hX : X.length = c * s.k) (vU : 64 ≤ c * s.k) (gp : s.ar = 0) (g : Int) :
    ∃s1,s.format a c g=(0,s1)∧BI s1 a c P (cY g++[255,255,255,255]) [] (c*s.k - 16) Q∧s1.k=s.k∧s1.ar=0:=by
 refine⟨_,Hu (g:=g) hd hk hl hP hX (by omega) (by omega),⟨?_,hP,by simp[jD],?_,trivial,rfl⟩,rfl,?_⟩
 ·show P++(cY g++(List.replicate (c*s.k - 12) 255++Q))=_
  rw[mD (by omega:4≤c*s.k - 12),show c*s.k - 12 - 4=c*s.k - 16 by omega]
  simp[aF,List.replicate_succ]
 ·show 16+(aF []).length+(c*s.k - 16)=c*s.k
  simp only[aF,List.flatMap_nil,List.length_nil];omega
 ·show(if 0<s.ar then s.ar - (c+12) else s.ar)=0
  rw[gp];rfl
theorem PY {s : U} {a c : Nat} {P Q : List UInt8} {l : List Rc} {m : Nat} {g : Int} (h : BI s a c P (cY g ++ [255, 255, 255, 255]) l m Q) (gp : s.ar = 0) :
    ∃s',s.prog ((a:Int)*(s.k:Int)+12) [254]=(0,s')∧BI s' a c P (dp g) l m Q∧s'.k=s.k∧s'.ar=0:=by
 have hB:=jD g
 rw[nB (m:=[254]) (p:=P++cY g) (q:=[255]) (r:=[255,255,255]++(aF l++(List.replicate m 255++Q))) h.dd (by simp only[List.length_append,h.P,hB,Int.natCast_add,Int.natCast_mul];rfl) rfl (by rw[h.iJ];simp) (by omega)]
 refine⟨_,rfl,⟨?_,h.P,qT g,h.n,h.pl,rfl⟩,rfl,?_⟩
 ·show P++cY g++([255&&&254]++([255,255,255]++(aF l++(List.replicate m 255++Q))))=_
  rw[Cw]
  simp[dp]
 ·show(if 0<s.ar then s.ar - (([254]:List UInt8).length:Int) else s.ar)=0
  rw[gp];rfl
theorem C7 {s : U} {a c : Nat} {P X Q : List UInt8} (hd : s.dd = false) (hk : 0 < s.k) (hl : s.l = P ++ (X ++ Q)) (hP : P.length = a * s.k) (hX : X.length = c * s.k) (vU : 64 ≤ c * s.k) (gp : s.ar = 0) (g : Int) (K : List RK) (hK : ∀ r ∈ K, fJ r) (hm : aP K ≤ c * s.k - 16) :
    ∃s',s.cB a c g K=(0,s')∧BI s' a c P (dp g) (jM 16 K) (c*s.k - 16 - aP K) Q∧s'.k=s.k∧s'.ar=0:=by
 obtain⟨s1,e1,b1,k1,a1⟩:=PX hd hk hl hP hX vU gp g
 obtain⟨s2,e2,b2,k2,a2⟩:=BI.bV K b1 a1 hK hm
 obtain⟨s3,e3,b3,k3,a3⟩:=PY b2 a2
 refine⟨s3,?_,?_,by rw[k3,k2,k1],a3⟩
 ·unfold U.cB
  rw[e1,if_pos rfl,e2,if_pos rfl]
  exact e3
 ·rw[List.nil_append] at b3
  exact b3
theorem Ir(g:Int)(hg:0≤g∧g≤4294967295)(r:List UInt8):iy (dp g++r)=(g,true):=by
 have h:=vJ (s:=⟨dp g++r,0,0,0,false,0⟩) (a:=0) (P:=[]) (Q:=r) rfl rfl (by simp) hg
 have h2:=s6 (s:=⟨dp g++r,0,0,0,false,0⟩) (a:=0) (O:=dp g++r) rfl (by simp)
 rw[h] at h2
 simp only[Prod.mk.injEq] at h2
 exact Prod.ext h2.1.symm h2.2.1.symm
theorem NG.copy {s : U} {c k i : Nat} {g : Int} {l : List Rc} {m : Nat} {O : List UInt8} (h : NG s c k i g l m O) (pg : 0 < k) (hg : g < 4294967295) (K : List RK) (hK : ∀ r ∈ K, fJ r) (hm : aP K ≤ c * k - 16) :
    ∃s' O',s.copy c K=(0,s')∧NG s' c k (1 - i) (g+1) (jM 16 K) (c*k - 16 - aP K) O':=by
 have hn:=h.bi.n
 have hH:=qT g
 have hk:=h.hk
 have fU:=h.bi.iJ
 have hO:=h.hO
 have PZ:=h.hg
 have gA:=h.big
 rw[hk] at hn
 unfold U.copy
 rw[h.a8]
 simp only
 rw[if_neg (by omega)]
 have ra:(dp g++(aF l++List.replicate m 255)).length=c*k:=by simp only[List.length_append,List.length_replicate,hH];omega
 have mF:=Ir g h.hg (aF l++List.replicate m 255)
 rcases h.hi with rfl | rfl
 ·simp only[if_true] at fU
  obtain⟨s',e,b,k1,a1⟩:=C7 (s:=s) (a:=c) (c:=c) (P:=dp g++(aF l++List.replicate m 255)) (X:=O) (Q:=[]) h.bi.dd (by omega) (by rw[fU];simp) (by rw[ra,hk]) (by rw[hO,hk]) (by rw[hk];exact gA) h.gp (g+1) K hK (by rw[hk];exact hm)
  refine⟨s',dp g++(aF l++List.replicate m 255),?_,⟨?_,by rw[k1,hk],a1,.inr rfl,ra,by omega,.inr (by rw[mF];simp only;omega),gA⟩⟩
  ·rw[show(1 - 0)*c=c by omega];exact e
  ·rw[hk] at b
   simp only[show(1 - 0:Nat)=1 from rfl,Nat.one_mul]
   exact b
 ·simp only[if_neg (by decide:¬(1:Nat)=0)] at fU
  obtain⟨s',e,b,k1,a1⟩:=C7 (s:=s) (a:=0) (c:=c) (P:=[]) (X:=O) (Q:=dp g++(aF l++List.replicate m 255)) h.bi.dd (by omega) (by rw[fU];simp) (by simp) (by rw[hO,hk]) (by rw[hk];exact gA) h.gp (g+1) K hK (by rw[hk];exact hm)
  refine⟨s',dp g++(aF l++List.replicate m 255),?_,⟨?_,by rw[k1,hk],a1,.inl rfl,ra,by omega,.inr (by rw[mF];simp only;omega),gA⟩⟩
  ·rw[show(1 - 1)*c=0 by omega];exact e
  ·rw[hk] at b
   simp only[show(1 - 1:Nat)=0 from rfl,Nat.zero_mul]
   exact b
def dj(l:List RK):List RK:=l.filter fun r=>r.lv
def fw(l:List RK):Prop:=((dj l).map fun r=>r.key).Nodup
theorem pK(l:List RK)(key:List UInt8):∀(n:Nat)(j:Nat),dB l key n=(j:Int)→j<n∧(l.getD j bG).lv=true∧(l.getD j bG).key=key
 | 0,j,h=>by simp only[dB] at h;omega
 | n+1,j,h=>by
  rw[dB] at h
  split at h
  ·rename_i q
   obtain rfl:n=j:=by omega
   exact⟨Nat.lt_succ_self _,q.1,q.2⟩
  ·obtain⟨h1,h2⟩:=pK l key n j h
   exact⟨by omega,h2⟩
theorem C8(l:List RK)(key:List UInt8):∀(n:Nat),dB l key n<0→∀i,i<n→¬((l.getD i bG).lv=true∧(l.getD i bG).key=key)
 | 0,h,i,hi=>absurd hi (Nat.not_lt_zero i)
 | n+1,h,i,hi=>by
  rw[dB] at h
  split at h
  ·omega
  ·rename_i q
   rcases Nat.lt_or_eq_of_le (Nat.le_of_lt_succ hi) with h1 | h1
   ·exact C8 l key n h i h1
   ·rw[h1];exact q
theorem C9(a b:List RK):dj (a++b)=dj a++dj b:=by simp[dj]
theorem vV{l1 l2:List RK}{x:RK}(hx:x.lv=true)(hN:fw (l1++x::l2)):dj (l1++⟨x.key,x.val,false⟩::l2)=(dj (l1++x::l2)).filter fun r=>r.key !=x.key:=by
 have e:dj (l1++x::l2)=dj l1++x::dj l2:=by simp[dj,hx]
 have e2:dj (l1++⟨x.key,x.val,false⟩::l2)=dj l1++dj l2:=by simp[dj]
 unfold fw at hN
 rw[e,List.map_append,List.map_cons,List.nodup_append,List.nodup_cons] at hN
 obtain⟨h1,⟨h2,h3⟩,h4⟩:=hN
 rw[e,e2,List.filter_append,List.filter_cons_of_neg (by simp)]
 congr 1
 ·symm
  rw[List.filter_eq_self]
  intro r hr
  have:=h4 r.key (List.mem_map.2 ⟨r,hr,rfl⟩) x.key (List.mem_cons_self ..)
  simpa using this
 ·symm
  rw[List.filter_eq_self]
  intro r hr
  have:r.key≠x.key:=fun q=>h2 (by rw[←q];exact List.mem_map.2 ⟨r,hr,rfl⟩)
  simpa using this
theorem P0{l:List RK}{key:List UInt8}(h:∀r∈l,¬(r.lv=true∧r.key=key)):(dj l).filter (fun r=>r.key !=key)=dj l:=by
 rw[List.filter_eq_self]
 intro r hr
 have bf:=List.mem_filter.1 hr
 have:=h r bf.1
 have h2:r.key≠key:=fun q=>this ⟨bf.2,q⟩
 simpa using h2
theorem Is{M:List RK}{key val:List UInt8}(hN:(M.map fun r:RK=>r.key).Nodup):((List.filter (fun r:RK=>r.key !=key) M++[(⟨key,val,true⟩:RK)]).map fun r:RK=>r.key).Nodup:=by
 rw[List.map_append,List.nodup_append]
 refine⟨?_,by simp,?_⟩
 ·exact hN.sublist (List.Sublist.map _ List.filter_sublist)
 ·intro a ha b hb
  simp only[List.map_cons,List.map_nil,List.mem_singleton] at hb
  obtain⟨r,hr,rfl⟩:=List.mem_map.1 ha
  have:=(List.mem_filter.1 hr).2
  subst hb
  simpa using this
theorem Da{l:List RK}(hN:fw l){n:Nat}(hn:n<l.length):fj l n=l[n].lv:=by
 have hg:l.getD n bG=l[n]:=by rw[List.getD_eq_getElem?_getD,List.getElem?_eq_getElem hn];rfl
 unfold fj
 rw[hg]
 cases hv:l[n].lv with
 | true=>
  rw[decide_eq_true_iff]
  have hle:∀m:Nat,n<m→m≤l.length→dB l l[n].key m=(n:Int):=by
   intro m
   induction m with
   | zero=>intro h1;omega
   | succ m P1=>
    intro h1 h2
    rw[dB]
    by_cases Ci:m=n
    ·subst Ci
     rw[hg,if_pos ⟨hv,rfl⟩]
    ·have hm:m<l.length:=by omega
     have P2:l.getD m bG=l[m]:=by rw[List.getD_eq_getElem?_getD,List.getElem?_eq_getElem hm];rfl
     rw[P2,if_neg,P1 (by omega) (by omega)]
     rintro⟨q1,q2⟩
     have hs:l=l.take m++l[m]::l.drop (m+1):=by rw[List.getElem_cons_drop,List.take_append_drop]
     have e:dj l=dj (l.take m)++l[m]::dj (l.drop (m+1)):=by
      have e0:=congrArg dj hs
      rw[C9] at e0
      have e1:dj (l[m]::l.drop (m+1))=l[m]::dj (l.drop (m+1)):=List.filter_cons_of_pos q1
      rw[e1] at e0
      exact e0
     unfold fw at hN
     rw[e,List.map_append,List.map_cons,List.nodup_append] at hN
     refine hN.2.2 l[n].key ?_ l[m].key (List.mem_cons_self ..) q2.symm
     refine List.mem_map.2 ⟨l[n],List.mem_filter.2 ⟨?_,hv⟩,rfl⟩
     exact List.mem_iff_getElem.2 ⟨n,by rw[List.length_take];omega,by rw[List.getElem_take]⟩
  exact hle l.length hn (Nat.le_refl _)
 | false=>
  rw[decide_eq_false_iff_not]
  intro q
  have:=(pK l l[n].key l.length n q).2.1
  rw[hg,hv] at this
  cases this
theorem Db{l:List RK}(hN:fw l):∀n:Nat,n≤l.length→((dA l n).map fun j=>l.getD j bG)=dj (l.take n)
 | 0,_=>by simp[dA,dj]
 | n+1,h=>by
  have ih:=Db hN n (by omega)
  have hn:n<l.length:=by omega
  have hg:l.getD n bG=l[n]:=by rw[List.getD_eq_getElem?_getD,List.getElem?_eq_getElem hn];rfl
  rw[sW,List.map_append,ih,List.take_succ_eq_append_getElem hn,C9]
  congr 1
  have key:fj l n=l[n].lv:=Da hN hn
  rw[key]
  cases hv:l[n].lv with
  | true=>
   rw[if_pos rfl,List.map_cons,List.map_nil,hg]
   simp[dj,hv]
  | false=>simp[dj,hv]
theorem rb{l:List RK}(hN:fw l):b8 l=dj l:=by
 have:=Db hN l.length (Nat.le_refl _)
 rw[List.take_length] at this
 exact this
def NM(s:U)(c k:Nat)(G:Int)(M:List RK):Prop:=∃i g l m O,NG s c k i g l m O∧g≤G∧dj (l.map aj)=M∧fw (l.map aj)∧(∀r∈M,fJ r)
def iM(M:List RK)(key val:List UInt8):List RK:=M.filter (fun r=>r.key !=key)++[⟨key,val,true⟩]
theorem Iu{l:List Rc}{key val:List UInt8}{p:Nat}(hN:fw (l.map aj)):dj ((kh l (aT (l.map aj) key)++[(⟨key,val,true,p⟩:Rc)]).map aj)=iM (dj (l.map aj)) key val:=by
 rw[List.map_append,C9]
 unfold iM
 congr 1
 have ah:=ot (l.map aj) key (l.map aj).length
 rw[List.length_map] at ah
 have hL:aT (l.map aj) key=dB (l.map aj) key l.length:=by unfold aT;rw[List.length_map]
 rw[hL]
 by_cases h0:0≤dB (l.map aj) key l.length
 ·obtain⟨j,hj⟩:∃j:Nat,dB (l.map aj) key l.length=(j:Int):=⟨(dB (l.map aj) key l.length).toNat,by omega⟩
  obtain⟨j1,j2,j3⟩:=pK _ _ _ _ hj
  rw[hj]
  obtain⟨l1,x,l2,rfl,rfl⟩:∃l1 d l2,l=l1++d::l2∧l1.length=j:=⟨l.take j,l[j],l.drop (j+1),by rw[List.getElem_cons_drop,List.take_append_drop],by rw[List.length_take];omega⟩
  have hx:((l1++x::l2).map aj).getD l1.length bG=aj x:=by
   rw[List.getD_eq_getElem?_getD,List.getElem?_map,List.getElem?_append_right (Nat.le_refl _),Nat.sub_self];rfl
  rw[hx] at j2 j3
  have mE:kh (l1++x::l2) (l1.length:Int)=l1++x.die::l2:=by
   unfold kh
   rw[if_pos (by omega),Int.toNat_natCast,List.set_append_right _ _ (Nat.le_refl _),Nat.sub_self,List.set_cons_zero,List.getD_eq_getElem?_getD,List.getElem?_append_right (Nat.le_refl _),Nat.sub_self]
   rfl
  rw[mE]
  rw[List.map_append,List.map_cons] at hN⊢
  have:=vV j2 hN
  rw[←j3,List.map_append,List.map_cons,←this]
  rfl
 ·have mE:kh l (dB (l.map aj) key l.length)=l:=by unfold kh;rw[if_neg h0]
  rw[mE]
  symm
  refine P0 fun r hr=> ?_
  obtain⟨j,hj,rfl⟩:=List.getElem_of_mem hr
  have:=C8 (l.map aj) key l.length (by omega) j (by rw[List.length_map] at hj;exact hj)
  rw[List.getD_eq_getElem?_getD,List.getElem?_eq_getElem hj] at this
  exact this
theorem NM.set {s : U} {c k : Nat} {G : Int} {M : List RK} (h : NM s c k G M) (pg : 0 < k) (hG : G < 4294967295) {key val : List UInt8} (hk : 1 ≤ key.length ∧ key.length ≤ 255) (hv : val.length ≤ 65536) :
    (c*k - 16<aP M+(12+key.length+val.length)→s.set c key val=(5,s))∧
    (aP M+(12+key.length+val.length)≤c*k - 16→∃s',s.set c key val=(0,s')∧NM s' c k (G+1) (iM M key val)):=by
 obtain⟨i,g,l,m,O,hn,nG,hM,hN,hK⟩:=h
 have gA:=hn.big
 have gn:=hn.hk
 have pL:=hn.bi.n
 rw[gn] at pL
 have cA:(c:Int)*(s.k:Int)=((c*k:Nat):Int):=by rw[gn];simp
 have bH:b8 (l.map aj)=M:=(rb hN).trans hM
 have kW:s.set c key val=if(c:Int)*s.k - 16<aP M+(12+key.length+val.length) then(5,s) else if(true:Bool)=false∨(c:Int)*s.k - 16+16 - ((16+(aF l).length:Nat):Int)<12+key.length+val.length then(if(s.copy c M).1=0 then(if(s.copy c M).2.dd=true then(6,(s.copy c M).2) else(s.copy c M).2.put c key val) else s.copy c M) else s.put c key val:=by
  unfold U.set
  rw[if_neg (by omega),hn.bi.dd,hn.bw,hn.fg,bH]
  simp only[Bool.false_eq_true,if_false]
 rw[kW]
 constructor
 ·intro hf
  rw[if_pos (by omega)]
 ·intro hf
  rw[if_neg (by omega)]
  have fin:∀{t:U}{i':Nat}{g':Int}{l':List Rc}{m':Nat}{O':List UInt8},NG t c k i' g' l' m' O'→g'≤G+1→dj (l'.map aj)=M→fw (l'.map aj)→12+key.length+val.length≤m'→∃s',t.put c key val=(0,s')∧NM s' c k (G+1) (iM M key val):=by
   intro t i' g' l' m' O' ht vW bA mG fu
   obtain⟨s',d,e1,rfl,e2⟩:=ht.put hk hv fu
   have c8:=Iu (l:=l') (key:=key) (val:=val) (p:=16+(aF l').length) mG
   rw[bA] at c8
   refine⟨s',e1,i',g',_,_,O',e2,vW,c8,?_,?_⟩
   ·unfold fw
    rw[c8]
    unfold fw at mG
    rw[bA] at mG
    exact Is mG
   ·intro r hr
    unfold iM at hr
    rcases List.mem_append.1 hr with h1 | h1
    ·exact hK r (List.mem_filter.1 h1).1
    ·rw[List.mem_singleton] at h1
     subst h1
     exact⟨hk,hv⟩
  by_cases hc:(c:Int)*s.k - 16+16 - ((16+(aF l).length:Nat):Int)<12+key.length+val.length
  ·rw[if_pos (.inr hc)]
   obtain⟨t,O',e1,e2⟩:=hn.copy pg (by omega) M hK (by omega)
   rw[e1,if_pos rfl,if_neg (by rw[e2.bi.dd];simp)]
   have pM:∀r∈M,r.lv=true:=by
    intro r hr
    rw[←hM] at hr
    exact(List.mem_filter.1 hr).2
   have vX:=C6 M 16 pM
   have vY:dj M=M:=by
    unfold dj
    rw[List.filter_eq_self]
    exact pM
   refine fin e2 (by omega) (by rw[vX,vY]) ?_ (by omega)
   rw[vX]
   unfold fw
   rw[vY]
   unfold fw at hN
   rw[hM] at hN
   exact hN
  ·rw[if_neg (fun q=>by rcases q with q | q;cases q;exact hc q)]
   exact fin hn (by omega) hM hN (by omega)
theorem Iv{s:U}{a c:Nat}{l:List RK}(hN:fw l):∀(m k:Nat),k+m=l.length→s.eG a c l k m=(0,s)
 | 0,k,h=>rfl
 | m+1,k,h=>by
  have hk:k<l.length:=by omega
  have hg:l.getD k bG=l[k]:=by rw[List.getD_eq_getElem?_getD,List.getElem?_eq_getElem hk];rfl
  rw[U.eG,if_neg,Iv hN m (k+1) (by omega)]
  rintro⟨q1,q2⟩
  have h1:=Da hN hk
  rw[hg] at q1 q2
  rw[q1] at h1
  unfold fj at h1
  rw[hg,decide_eq_true_iff] at h1
  exact q2 h1
theorem NM.tidy{s:U}{c k:Nat}{G:Int}{M:List RK}(h:NM s c k G M):s.tidy c=(0,s):=by
 obtain⟨i,g,l,m,O,hn,nG,hM,hN,hK⟩:=h
 unfold U.tidy
 rw[hn.bi.dd,hn.bw,if_neg (by simp)]
 exact Iv hN _ 0 (by omega)
theorem NM.aW{s:U}{c k:Nat}{G:Int}{M:List RK}(h:NM s c k G M):s.aW c=(0,s):=by
 have ht:=h.tidy
 obtain⟨i,g,l,m,O,hn,nG,hM,hN,hK⟩:=h
 unfold U.aW
 rw[hn.bi.dd,if_neg (by simp),hn.a8,if_neg (by simp),ht]
theorem NM.live{s:U}{c k:Nat}{G:Int}{M:List RK}(h:NM s c k G M):s.dd=false:=by
 obtain⟨i,g,l,m,O,hn,_⟩:=h
 exact hn.bi.dd
theorem Dc(n:Nat):(List.replicate (n+1) (255:UInt8)).head? =some 255:=rfl
theorem P3(n:Nat)(h:16≤n):(iy (List.replicate n 255)).2=false:=by
 have h1:=CC (s:=⟨List.replicate n 255,0,0,0,false,0⟩) (a:=0) (P:=[]) (X:=List.replicate n 255) (Q:=[]) rfl (by simp) (by simp) (by simpa using h) (.inl (by obtain⟨m,rfl⟩:∃m,n=m+1:=⟨n - 1,by omega⟩;exact Dc m))
 have h2:=s6 (s:=⟨List.replicate n 255,0,0,0,false,0⟩) (a:=0) (O:=List.replicate n 255) rfl (by simp)
 rw[h2] at h1
 exact h1.1
theorem NM.new{c k:Nat}(hk:0<k)(gA:64≤c*k):∃s,(U.new (2*c) k).cB 0 c 1 []=(0,s)∧(U.new (2*c) k).aW c=(0,s)∧NM s c k 1 []:=by
 have hl:(U.new (2*c) k).l=[]++(List.replicate (c*k) 255++List.replicate (c*k) 255):=by
  show List.replicate (2*c*k) 255=_
  rw[List.nil_append,List.replicate_append_replicate]
  congr 1
  rw[Nat.mul_assoc];omega
 obtain⟨s,e,b,k1,a1⟩:=C7 (s:=U.new (2*c) k) (a:=0) (c:=c) (P:=[]) rfl hk hl (by simp) (by simp;rfl) gA rfl 1 [] (by simp) (Nat.zero_le _)
 have P4:((U.new (2*c) k).head 0).2.1=false:=(CC (a:=0) (P:=[]) (X:=List.replicate (c*k) 255) (Q:=List.replicate (c*k) 255) rfl hl (by simp) (by simp;omega) (.inl (by obtain⟨m,hm⟩:∃m,c*k=m+1:=⟨c*k - 1,by omega⟩;rw[hm];exact Dc m))).1
 have P5:((U.new (2*c) k).head c).2.1=false:=(CC (a:=c) (P:=List.replicate (c*k) 255) (X:=List.replicate (c*k) 255) (Q:=[]) rfl (by rw[hl];simp) (by simp;rfl) (by simp;omega) (.inl (by obtain⟨m,hm⟩:∃m,c*k=m+1:=⟨c*k - 1,by omega⟩;rw[hm];exact Dc m))).1
 have hc:((U.new (2*c) k).a8 c).2.2=false:=by
  unfold U.a8
  rw[if_neg (fun q=>by rw[P5] at q;cases q.1)]
  exact P4
 have hM:NM s c k 1 []:=by
  refine⟨0,1,[],c*k - 16,List.replicate (c*k) 255,⟨?_,k1,a1,.inl rfl,by simp,by decide,.inl (P3 _ (by omega)),gA⟩,by decide,rfl,List.nodup_nil,by simp⟩
  rw[Nat.zero_mul]
  exact b
 refine⟨s,e,?_,hM⟩
 unfold U.aW
 rw[if_neg (by simp[U.new]),if_pos hc,e,if_pos rfl,hM.tidy]
theorem NM.look {s : U} {c k : Nat} {G : Int} {M : List RK} (h : NM s c k G M) : ∃ (i : Nat) (l : List Rc) (e : Nat), (i = 0 ∨ i = 1) ∧ (s.a8 c).1 = i ∧ s.scan (i * c) c = (l, e, true) ∧
    (∀key:List UInt8,(∀r∈M,r.key≠key)→aT (l.map aj) key<0)∧
    (∀r∈M,∃(j:Nat)(d:Rc),l[j]? =some d∧aT (l.map aj) r.key=(j:Int)∧d.val=r.val):=by
 obtain⟨i,g,l,m,O,hn,nG,hM,hN,hK⟩:=h
 refine⟨i,l,_,hn.hi,by rw[hn.a8],hn.bi.scan,fun key hk=> ?_,fun r hr=> ?_⟩
 ·have ah:=ot (l.map aj) key (l.map aj).length
  refine Int.not_le.1 fun h0=> ?_
  obtain⟨j,hj⟩:∃j:Nat,aT (l.map aj) key=(j:Int):=⟨(aT (l.map aj) key).toNat,by omega⟩
  obtain⟨j1,j2,j3⟩:=pK _ _ _ _ hj
  have hg:(l.map aj).getD j bG=(l.map aj)[j]:=by rw[List.getD_eq_getElem?_getD,List.getElem?_eq_getElem j1];rfl
  rw[hg] at j2 j3
  refine hk (l.map aj)[j] ?_ j3
  rw[←hM]
  exact List.mem_filter.2 ⟨List.getElem_mem _,j2⟩
 ·rw[←hM] at hr
  obtain⟨h1,h2⟩:=List.mem_filter.1 hr
  obtain⟨j,hj,gU⟩:=List.getElem_of_mem h1
  have ke:j<l.length:=by rw[List.length_map] at hj;exact hj
  have eT:=Da hN hj
  rw[gU,h2] at eT
  unfold fj at eT
  rw[List.getD_eq_getElem?_getD,List.getElem?_eq_getElem hj,decide_eq_true_iff,Option.getD_some,gU] at eT
  refine⟨j,l[j],List.getElem?_eq_getElem ke,eT,?_⟩
  rw[←gU,List.getElem_map]
  rfl
theorem Iw{l:List RK}{r:RK}(hr:r∈b8 l):∃j:Nat,j<l.length∧l.getD j bG=r∧aT l r.key=(j:Int):=by
 unfold b8 at hr
 obtain⟨j,hj,rfl⟩:=List.mem_map.1 hr
 obtain⟨h1,h2⟩:=List.mem_filter.1 hj
 exact⟨j,List.mem_range.1 h1,rfl,of_decide_eq_true h2⟩
theorem Ix{l:List RK}{key:List UInt8}(h:∀r∈b8 l,r.key≠key):aT l key<0:=by
 refine Int.not_le.1 fun h0=> ?_
 obtain⟨j,hj⟩:∃j:Nat,aT l key=(j:Int):=⟨(aT l key).toNat,by omega⟩
 obtain⟨j1,j2,j3⟩:=pK _ _ _ _ hj
 refine h (l.getD j bG) (List.mem_map.2 ⟨j,List.mem_filter.2 ⟨List.mem_range.2 j1,?_⟩,rfl⟩) j3
 unfold fj
 rw[j3,hj]
 simp
structure LK(s:U)(c:Nat)(M:List RK):Prop where
 live:s.dd=false
 kept:∃(i:Nat)(l:List Rc)(e:Nat)(b:Bool),(i=0∨i=1)∧(s.a8 c).1=i∧s.scan (i*c) c=(l,e,b)∧b8 (l.map aj)=M
theorem LK.look {s : U} {c : Nat} {M : List RK} (h : LK s c M) : ∃ (i : Nat) (l : List Rc) (e : Nat) (b : Bool), (i = 0 ∨ i = 1) ∧ (s.a8 c).1 = i ∧ s.scan (i * c) c = (l, e, b) ∧
    (∀key:List UInt8,(∀r∈M,r.key≠key)→aT (l.map aj) key<0)∧
    (∀r∈M,∃(j:Nat)(d:Rc),l[j]? =some d∧aT (l.map aj) r.key=(j:Int)∧d.val=r.val):=by
 obtain⟨i,l,e,b,hi,hc,hS,hk⟩:=h.kept
 refine⟨i,l,e,b,hi,hc,hS,fun key hx=>Ix (by rw[hk];exact hx),fun r hr=> ?_⟩
 rw[←hk] at hr
 obtain⟨j,h1,h2,h3⟩:=Iw hr
 have hj:j<l.length:=by rw[List.length_map] at h1;exact h1
 refine⟨j,l[j],List.getElem?_eq_getElem hj,h3,?_⟩
 rw[←h2,List.getD_eq_getElem?_getD,List.getElem?_map,List.getElem?_eq_getElem hj]
 rfl
theorem NM.lk{s:U}{c k:Nat}{G:Int}{M:List RK}(h:NM s c k G M):LK s c M:=by
 have hl:=h.live
 obtain⟨i,g,l,m,O,hn,nG,hM,hN,hK⟩:=h
 refine⟨hl,i,l,_,true,hn.hi,by rw[hn.a8],hn.bi.scan,?_⟩
 unfold b8
 rw[Db hN _ (Nat.le_refl _),List.take_length,hM]
def aS(a b:List UInt8):Bool:=Op.bytesLess a b
theorem vZ(x y:UInt8)(a b:List UInt8):aS (x::a) (y::b)=(decide (x<y)||(x==y&&aS a b)):=rfl
theorem lR:∀a:List UInt8,aS a a=false
 | []=>rfl
 | x::a=>by rw[vZ,lR a];simp
theorem rf:∀{a b c:List UInt8},aS a b=true→aS b c=true→aS a c=true
 | a,[],c,h,_=>by cases a<;>cases h
 | a,y::b,[],_,h=>by cases h
 | [],y::b,z::c,_,_=>rfl
 | x::a,y::b,z::c,h1,h2=>by
  rw[vZ,Bool.or_eq_true,Bool.and_eq_true,decide_eq_true_eq,beq_iff_eq] at h1 h2⊢
  rcases h1 with h1 | ⟨rfl,h1⟩
  ·rcases h2 with h2 | ⟨rfl,h2⟩
   ·exact .inl (UInt8.lt_trans h1 h2)
   ·exact .inl h1
  ·rcases h2 with h2 | ⟨rfl,h2⟩
   ·exact .inl h2
   ·exact .inr ⟨rfl,rf h1 h2⟩
theorem oy:∀(a b:List UInt8),aS a b=false→aS b a=false→a=b
 | [],[],_,_=>rfl
 | [],_::_,h,_=>by cases h
 | _::_,[],_,h=>by cases h
 | x::a,y::b,h1,h2=>by
  rw[vZ] at h1 h2
  simp only[Bool.or_eq_false_iff,Bool.and_eq_false_iff,decide_eq_false_iff_not,beq_eq_false_iff_ne,ne_eq] at h1 h2
  have Ce:x=y:=by
   by_cases q:x=y
   ·exact q
   ·rcases UInt8.lt_or_lt_of_ne q with q | q
    ·exact absurd q h1.1
    ·exact absurd q h2.1
  subst Ce
  have e:=oy a b (by rcases h1.2 with q | q;exact absurd rfl q;exact q) (by rcases h2.2 with q | q;exact absurd rfl q;exact q)
  rw[e]
theorem s7{a b:List UInt8}(h:aS a b=true):aS b a=false:=by
 cases q:aS b a with
 | false=>rfl
 | true=>have:=rf h q;rw[lR] at this;cases this
theorem s8:∀(a b:List UInt8),decide (Lib.compareBytes a b<0)=aS a b
 | [],[]=>rfl
 | [],_::_=>rfl
 | _::_,[]=>rfl
 | x::a,y::b=>by
  rw[vZ,Lib.compareBytes]
  by_cases h1:x<y
  ·rw[if_pos h1];simp[h1]
  ·rw[if_neg h1]
   by_cases h2:y<x
   ·rw[if_pos h2]
    have:¬x=y:=fun e=>by subst e;exact UInt8.lt_irrefl _ h2
    simp[h1,this]
   ·rw[if_neg h2,s8 a b]
    have:x=y:=by
     by_cases q:x=y
     ·exact q
     ·rcases UInt8.lt_or_lt_of_ne q with q | q
      ·exact absurd q h1
      ·exact absurd q h2
    simp[h1,this]
def cP(R:List RK):Prop:=R.Pairwise fun x y=>aS x.key y.key=true
structure RM(M R:List RK):Prop where
 perm:R.Perm M
 sort:cP R
theorem P6{a b:List RK}(h:a.Perm b):aP a=aP b:=by
 induction h with
 | nil=>rfl
 | cons x _ ih=>simp only[aP,ih]
 | swap x y l=>simp only[aP];omega
 | trans _ _ P7 P8=>rw[P7,P8]
theorem RM.used{M R:List RK}(h:RM M R):aP R=aP M:=P6 h.perm
theorem RM.nil:RM [] []:=⟨List.Perm.nil,List.Pairwise.nil⟩
def eO(R:List RK)(key:List UInt8):List RK:=R.filter fun r=>r.key !=key
theorem RM.del{M R:List RK}(h:RM M R)(key:List UInt8):RM (M.filter fun r=>r.key !=key) (eO R key):=⟨h.perm.filter _,h.sort.sublist List.filter_sublist⟩
def pI(R:List RK)(x:RK):List RK:=R.takeWhile (fun r=>aS r.key x.key)++x::R.dropWhile (fun r=>aS r.key x.key)
theorem sZ(R:List RK)(x:RK):(pI R x).Perm (R++[x]):=by
 unfold pI
 have h:(R.takeWhile (fun r=>aS r.key x.key)++R.dropWhile (fun r=>aS r.key x.key))=R:=List.takeWhile_append_dropWhile
 have h2:(R.takeWhile (fun r=>aS r.key x.key)++x::R.dropWhile (fun r=>aS r.key x.key)).Perm (x::(R.takeWhile (fun r=>aS r.key x.key)++R.dropWhile (fun r=>aS r.key x.key))):=List.perm_middle
 rw[h] at h2
 exact h2.trans (List.perm_append_comm (l₁:=[x]) (l₂:=R))
theorem Dd:∀{R:List RK}{x:RK},cP R→(∀r∈R,r.key≠x.key)→cP (pI R x)
 | [],x,_,_=>List.pairwise_singleton _ _
 | r::R,x,h,aG=>by
  unfold cP at h⊢
  rw[List.pairwise_cons] at h
  unfold pI
  cases q:aS r.key x.key with
  | true=>
   rw[List.takeWhile_cons_of_pos (p:=fun r:RK=>aS r.key x.key) q,List.dropWhile_cons_of_pos (p:=fun r:RK=>aS r.key x.key) q,List.cons_append,List.pairwise_cons]
   refine⟨fun y hy=> ?_,Dd (R:=R) h.2 fun z hz=>aG z (List.mem_cons_of_mem _ hz)⟩
   have hm:=(sZ R x).mem_iff.1 hy
   rcases List.mem_append.1 hm with hm | hm
   ·exact h.1 y hm
   ·rw[List.mem_singleton] at hm;subst hm;exact q
  | false=>
   rw[List.takeWhile_cons_of_neg (p:=fun r:RK=>aS r.key x.key) (by simp[q]),List.dropWhile_cons_of_neg (p:=fun r:RK=>aS r.key x.key) (by simp[q]),List.nil_append,List.pairwise_cons,List.pairwise_cons]
   have hx:aS x.key r.key=true:=by
    cases q2:aS x.key r.key with
    | true=>rfl
    | false=>exact absurd (oy _ _ q q2) (aG r (List.mem_cons_self ..))
   refine⟨fun y hy=> ?_,h.1,h.2⟩
   rcases List.mem_cons.1 hy with rfl | hy
   ·exact hx
   ·exact rf hx (h.1 y hy)
def ou(R:List RK)(key val:List UInt8):List RK:=pI (eO R key) ⟨key,val,true⟩
theorem RM.set{M R:List RK}(h:RM M R)(key val:List UInt8):RM (iM M key val) (ou R key val):=by
 have hd:=h.del key
 refine⟨(sZ _ _).trans (hd.perm.append_right _),Dd hd.sort fun r hr=> ?_⟩
 have:=(List.mem_filter.1 hr).2
 simpa using this
theorem RM.keys{M R:List RK}(h:RM M R):(M.map fun r=>r.key).mergeSort (fun x y=> !aS y x)=R.map fun r=>r.key:=by
 have mg:∀(a b c:List UInt8),(!aS b a)=true→(!aS c b)=true→(!aS c a)=true:=by
  intro a b c h1 h2
  simp only[Bool.not_eq_true'] at h1 h2⊢
  cases q:aS c a with
  | false=>rfl
  | true=>
   cases q1:aS a b with
   | true=>have:=rf q q1;rw[this] at h2;cases h2
   | false=>
    have:=oy a b q1 h1
    subst this
    rw[q] at h2;cases h2
 have v7:∀(a b:List UInt8),((!aS b a)||(!aS a b))=true:=by
  intro a b
  cases q:aS b a with
  | false=>rfl
  | true=>rw[s7 q];rfl
 have hs:(R.map fun r=>r.key).Pairwise fun x y=>(!aS y x)=true:=by
  rw[List.pairwise_map]
  exact h.sort.imp fun{a b} q=>by rw[s7 q];rfl
 have e:=List.mergeSort_of_pairwise hs
 have hp:(M.map fun r=>r.key).Perm (R.map fun r=>r.key):=(h.perm.map _).symm
 have s1:=List.pairwise_mergeSort mg v7 (M.map fun r=>r.key)
 refine List.Perm.eq_of_pairwise (le:=fun x y=>(!aS y x)=true) (fun a b _ _ h1 h2=> ?_) s1 hs ((List.mergeSort_perm _ _).trans hp)
 simp only[Bool.not_eq_true'] at h1 h2
 exact(oy a b h2 h1)
theorem NM.del {s : U} {c k : Nat} {G : Int} {M : List RK} (h : NM s c k G M) (key : List UInt8) :
    ((∀r∈M,r.key≠key)→s.del c key=(3,s))∧((∃r∈M,r.key=key)→∃s',s.del c key=(0,s')∧NM s' c k G (M.filter fun r=>r.key !=key)):=by
 have hl:=h.look
 obtain⟨i,g,l,m,O,hn,nG,hM,hN,hK⟩:=h
 have qZ:s.del c key=if aT (l.map aj) key<0 then(3,s) else s.kill (i*c) c (aT (l.map aj) key):=by
  unfold U.del
  rw[hn.bi.dd,hn.bw,hn.a8,if_neg (by simp)]
 obtain⟨i',l',e',bP,uK,oN,oz,P9⟩:=hl
 have ei:i'=i:=by rw[←uK,hn.a8]
 subst ei
 have el:l'=l:=by
  have:=hn.bi.scan
  rw[oN] at this
  exact(Prod.mk.inj this).1
 subst el
 rw[qZ]
 constructor
 ·intro hk
  rw[if_pos (oz key hk)]
 ·rintro⟨r,hr,rfl⟩
  obtain⟨j,d,hj,ew,hv⟩:=P9 r hr
  rw[ew,if_neg (by omega)]
  obtain⟨j1,j2,j3⟩:=pK _ _ _ _ ew
  obtain⟨lr,rfl⟩:=List.getElem?_eq_some_iff.1 hj
  obtain⟨l1,x,l2,hl,fM⟩:∃l1 d l2,l'=l1++d::l2∧l1.length=j:=⟨l'.take j,l'[j],l'.drop (j+1),by rw[List.getElem_cons_drop,List.take_append_drop],by rw[List.length_take];omega⟩
  subst hl
  subst fM
  have hx:((l1++x::l2).map aj).getD l1.length bG=aj x:=by
   rw[List.getD_eq_getElem?_getD,List.getElem?_map,List.getElem?_append_right (Nat.le_refl _),Nat.sub_self];rfl
  rw[hx] at j2 j3
  have hb:=hn.bi
  obtain⟨s2,e2,b2,k2,a2⟩:=hb.Hp (by have:=hn.gp;omega)
  refine⟨s2,e2,i',g,_,m,O,⟨b2,by rw[k2,hn.hk],by rw[a2,hn.gp];rfl,hn.hi,hn.hO,hn.hg,hn.kg,hn.big⟩,nG,?_,?_,?_⟩
  ·rw[←hM,List.map_append,List.map_cons]
   rw[List.map_append,List.map_cons] at hN
   have:=vV j2 hN
   rw[←j3,List.map_append,List.map_cons,←this]
   rfl
  ·unfold fw at hN⊢
   rw[List.map_append,List.map_cons] at hN⊢
   have:=vV j2 hN
   rw[show aj x.die=⟨(aj x).key,(aj x).val,false⟩ from rfl,this]
   exact hN.sublist (List.Sublist.map _ List.filter_sublist)
  ·intro y hy
   exact hK y (List.mem_filter.1 hy).1
end Go.Proofs.YtpbpiehcchannaaGreatDoor
