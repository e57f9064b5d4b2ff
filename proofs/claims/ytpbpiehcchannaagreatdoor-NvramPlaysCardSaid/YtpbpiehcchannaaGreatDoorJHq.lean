/- What is done, as a law's caller hands it in. The document's map as sorted records, and a store beside it: the plain law. Calls of a store one behind the other, and the map beside it: the plain law. Conditions: the premises of each law. -/
import Derived.Test.YtpbpiehcchannaaGreatDoorJBn0
import Derived.Test.YtpbpiehcchannaaGreatDoorJGf
import Derived.Test.YtpbpiehcchannaaGreatDoorJNr1
import Derived.Test.YtpbpiehcchannaaGreatDoorJHp
import Derived.Test.YtpbpiehcchannaaGreatDoorJHv
namespace Go.Proofs.YtpbpiehcchannaaGreatDoor
open Go.RowKit
set_option linter.unusedVariables false
set_option linter.unusedSimpArgs false
set_option maxRecDepth 100000
set_option maxHeartbeats 1500000
structure dg where
 K:Int
 n:Int
 p:Int
 key:List UInt8
 val:List UInt8
def aN(z:Nat)(o:dg):List AV:=[.val (.int .i64 o.K),.val (.int .i64 o.n),.val (.int .i64 o.p),.bs z o.key,.bs z o.val]
def lj:dg:=⟨0,0,0,[],[]⟩
structure fE(o:dg):Prop where
 K:aG o.K
 n:aG o.n
 p:aG o.p
 key:o.key.length≤140737488355328
 val:o.val.length≤140737488355328
def ej:List dg→Int
 | []=>0
 | o::l=>min (o.key.length:Int) 262144+min (o.val.length:Int) 262144+ej l
theorem Fe(o:dg):∀l,ej (l++[o])=ej l+(min (o.key.length:Int) 262144+min (o.val.length:Int) 262144)
 | []=>by simp[ej]
 | x::l=>by
  have:=Fe o l
  simp only[List.cons_append,ej,this];omega
theorem vI:∀l,0≤ej l
 | []=>Int.le_refl _
 | o::l=>by have:=vI l;simp only[ej];omega
theorem Li{l:List dg}{i:Nat}(h:i<l.length):ej (l.take (i+1))=ej (l.take i)+(min ((l.getD i lj).key.length:Int) 262144+min ((l.getD i lj).val.length:Int) 262144):=by
 rw[List.take_succ_eq_append_getElem h,Fe,List.getD_eq_getElem?_getD,List.getElem?_eq_getElem h];rfl
theorem Lj(l:List dg)(i:Nat):ej (l.take i)≤ej l:=by
 have key:∀(a b:List dg),ej (a++b)=ej a+ej b:=by
  intro a b
  induction a with
  | nil=>simp[ej]
  | cons x a ih=>simp only[List.cons_append,ej,ih];omega
 have h:=congrArg ej (List.take_append_drop i l)
 rw[key] at h
 have:=vI (l.drop i)
 omega
theorem Lg{α:Type}{a b:List α}{i:Nat}{d:α}(ha:i<a.length)(hb:i<b.length)(h:a.take i=b.take i)(he:a.getD i d=b.getD i d):a.take (i+1)=b.take (i+1):=by
 rw[List.take_succ_eq_append_getElem ha,List.take_succ_eq_append_getElem hb,h]
 rw[List.getD_eq_getElem?_getD,List.getD_eq_getElem?_getD,List.getElem?_eq_getElem ha,List.getElem?_eq_getElem hb] at he
 rw[show a[i]=b[i] from he]
end Go.Proofs.YtpbpiehcchannaaGreatDoor
namespace Go.Proofs.YtpbpiehcchannaaGreatDoor
set_option linter.unusedVariables false
set_option linter.unusedSimpArgs false
def iH(R:List RK):List (List UInt8):=R.map fun r=>r.key
def z8(R:List RK):List (List UInt8):=R.map fun r=>r.val
theorem Ff(R:List RK):(iH R).length=R.length:=List.length_map ..
theorem Mq(r:RK)(R:List RK)(key:List UInt8):pI (iH (r::R)) key=if r.key=key then 0 else 1+pI (iH R) key:=rfl
theorem Aa:∀(R:List RK)(key:List UInt8),pI (iH R) key<R.length↔∃r∈R,r.key=key
 | [],key=>by simp
 | r::R,key=>by
  have ih:=Aa R key
  rw[Mq]
  by_cases h:r.key=key
  ·rw[if_pos h];simp[h]
  ·rw[if_neg h,List.length_cons,show(1+pI (iH R) key<R.length+1)=(pI (iH R) key<R.length) by rw[Nat.add_comm,Nat.add_lt_add_iff_right],ih]
   simp[h]
theorem Mr{R:List RK}{key:List UInt8}(h:∀r∈R,r.key≠key):mU R key=R:=by
 unfold mU
 rw[List.filter_eq_self]
 intro r hr
 simp[h r hr]
theorem Fg:∀(R:List RK)(key:List UInt8),il (iH R) key=(R.takeWhile fun r=>bQ r.key key).length
 | [],key=>rfl
 | r::R,key=>by
  have ih:=Fg R key
  show(if Op.bytesLess r.key key=true then 1+il (iH R) key else 0)=_
  cases h:bQ r.key key with
  | true=>
   have h':Op.bytesLess r.key key=true:=h
   rw[if_pos h',List.takeWhile_cons_of_pos (p:=fun r:RK=>bQ r.key key) h,List.length_cons,ih,Nat.add_comm]
  | false=>
   rw[if_neg (by rw[show Op.bytesLess r.key key=false from h];simp),List.takeWhile_cons_of_neg (p:=fun r:RK=>bQ r.key key) (by simp[h])]
   rfl
theorem Ms(R:List RK)(x:RK):putAt (iH R) (il (iH R) x.key) x.key=iH (mV R x)∧putAt (z8 R) (il (iH R) x.key) x.val=z8 (mV R x):=by
 have h:(R.takeWhile (fun r=>bQ r.key x.key)++R.dropWhile (fun r=>bQ r.key x.key))=R:=List.takeWhile_append_dropWhile
 rw[Fg]
 unfold mV putAt iH z8
 generalize R.takeWhile (fun r=>bQ r.key x.key)=a at h⊢
 generalize R.dropWhile (fun r=>bQ r.key x.key)=b at h⊢
 subst h
 constructor
 ·rw[List.map_append,List.take_left' (by simp),List.drop_left' (by simp)];simp
 ·rw[List.map_append,List.take_left' (by simp),List.drop_left' (by simp)];simp
def n9(R:List RK)(room:Int)(key val:List UInt8):Int:=if key.length<1∨255<key.length∨65536<val.length then 1 else if room< (bw R+(12+key.length+val.length):Nat) then 5 else 0
def Fh(R:List RK)(room:Int)(key val:List UInt8):List RK:=if n9 R room key val=0 then vT R key val else R
def vU(R:List RK)(key:List UInt8):Int:=if pI (iH R) key< (iH R).length then 0 else 3
theorem Mt{R:List RK}{key:List UInt8}(h:∃r∈R,r.key=key):vU R key=0:=if_pos (by rw[Ff];exact(Aa R key).2 h)
theorem Mu{R:List RK}{key:List UInt8}(h:∀r∈R,r.key≠key):vU R key=3:=if_neg (by rw[Ff,Aa];rintro⟨r,hr,e⟩;exact h r hr e)
structure SM(s:J)(c k i:Nat)(R:List RK):Prop where
 ex:∃(G:Int)(M:List RK),NM s c k G M∧RM M R∧G≤1+i
 go:av (1000+i*300000000000) (2*c*k) k s
 len:R.length≤i
 ok:∀r∈R,th r
theorem SM.sort{s:J}{c k i:Nat}{R:List RK}(h:SM s c k i R):tj R:=by
 obtain⟨G,M,_,h2,_⟩:=h.ex
 exact h2.sort
theorem SM.mono{s:J}{c k i j:Nat}{R:List RK}(h:SM s c k i R)(Mv:i≤j):SM s c k j R:=by
 obtain⟨G,M,h1,h2,h3⟩:=h.ex
 exact⟨⟨G,M,h1,h2,by omega⟩,h.go.mono (by omega),Nat.le_trans h.len Mv,h.ok⟩
theorem Fi(R:List RK)(key:List UInt8):(mU R key).length≤R.length:=List.length_filter_le ..
theorem Mw(R:List RK)(key val:List UInt8):(vT R key val).length≤R.length+1:=by
 have h:=(tn (mU R key) ⟨key,val,true⟩).length_eq
 have:=Fi R key
 unfold vT
 rw[h,List.length_append,List.length_singleton];omega
theorem SM.set {s : J} {c k i : Nat} {R : List RK} (h : SM s c k i R) (hi : i ≤ 4000000000) (hk : 0 < k) (pa : aC (2 * c * k) k 0 c) (pb : aC (2 * c * k) k c c) (key val : List UInt8) :
    (s.set c key val).1=n9 R ((c*k - 16:Nat):Int) key val∧SM (s.set c key val).2 c k (i+1) (Fh R ((c*k - 16:Nat):Int) key val)∧(n9 R ((c*k - 16:Nat):Int) key val≠0→(s.set c key val).2=s):=by
 obtain⟨G,M,h1,h2,h3⟩:=h.ex
 have hu:=h2.used
 unfold Fh
 by_cases hb:key.length<1∨255<key.length∨65536<val.length
 ·have e:s.set c key val=(1,s):=by unfold J.set;rw[if_pos hb]
  have e2:n9 R ((c*k - 16:Nat):Int) key val=1:=if_pos hb
  rw[e,e2,if_neg (by decide)]
  exact⟨rfl,h.mono (Nat.le_succ i),fun _=>rfl⟩
 ·have hs:=h1.set hk (by omega:G<4294967295) (key:=key) (val:=val) ⟨by omega,by omega⟩ (by omega)
  by_cases hf:((c*k - 16:Nat):Int)< (bw R+(12+key.length+val.length):Nat)
  ·have e:=hs.1 (by rw[←hu];omega)
   have e2:n9 R ((c*k - 16:Nat):Int) key val=5:=by unfold n9;rw[if_neg hb,if_pos hf]
   rw[e,e2,if_neg (by decide)]
   exact⟨rfl,h.mono (Nat.le_succ i),fun _=>rfl⟩
  ·obtain⟨s',e,m'⟩:=hs.2 (by rw[←hu];omega)
   have e2:n9 R ((c*k - 16:Nat):Int) key val=0:=by unfold n9;rw[if_neg hb,if_neg hf]
   have gg:=h.go.set pa pb key val
   rw[e] at gg⊢
   rw[e2,if_pos rfl]
   have Mx:=tn (mU R key) ⟨key,val,true⟩
   refine⟨rfl,⟨⟨G+1,_,m',h2.set key val,by omega⟩,gg.mono (by omega),Nat.le_trans (Mw R key val) (Nat.succ_le_succ h.len),fun r hr=> ?_⟩,fun q=>absurd rfl q⟩
   rcases List.mem_append.1 (Mx.mem_iff.1 hr) with hr | hr
   ·exact h.ok r (List.mem_filter.1 hr).1
   ·rw[List.mem_singleton] at hr;subst hr
    exact⟨⟨by show 1≤key.length;omega,by show key.length≤255;omega⟩,by show val.length≤65536;omega⟩
theorem av.del{B:Int}{n k:Nat}{s:J}(g:av B n k s)(c:Nat)(key:List UInt8):av (B+1) n k (s.del c key).2:=by
 unfold J.del
 split
 ·exact g.mono (by omega)
 ·split
  ·exact g.mono (by omega)
  ·exact g.kill _ _ _
theorem My{c k:Nat}(h1:1≤c)(h2:c≤4194304)(eO:64≤c*k):aC (2*c*k) k 0 c:=⟨h1,eO,by rw[Nat.zero_mul,Nat.zero_add];exact Nat.mul_le_mul_right k (by omega),by omega,h2⟩
theorem Mz{c k:Nat}(h1:1≤c)(h2:c≤4194304)(eO:64≤c*k):aC (2*c*k) k c c:=⟨h1,eO,by rw[←Nat.add_mul];exact Nat.mul_le_mul_right k (by omega),h2,h2⟩
theorem SM.del {s : J} {c k i : Nat} {R : List RK} (h : SM s c k i R) (key : List UInt8) :
    (s.del c key).1=vU R key∧SM (s.del c key).2 c k (i+1) (mU R key)∧(vU R key≠0→(s.del c key).2=s∧mU R key=R):=by
 obtain⟨G,M,h1,h2,h3⟩:=h.ex
 have hd:=h1.del key
 by_cases hx:∃r∈R,r.key=key
 ·have qp:∃r∈M,r.key=key:=by obtain⟨r,hr,e⟩:=hx;exact⟨r,h2.perm.mem_iff.1 hr,e⟩
  obtain⟨s',e,m'⟩:=hd.2 qp
  have gg:=h.go.del c key
  rw[e] at gg⊢
  rw[Mt hx]
  exact⟨rfl,⟨⟨G,_,m',h2.del key,by omega⟩,gg.mono (by omega),Nat.le_trans (Fi R key) (Nat.le_succ_of_le h.len),fun r hr=>h.ok r (List.mem_filter.1 hr).1⟩,fun q=>absurd rfl q⟩
 ·have kW:∀r∈R,r.key≠key:=fun r hr e=>hx ⟨r,hr,e⟩
  have e:=hd.1 fun r hr q=>kW r (h2.perm.mem_iff.2 hr) q
  rw[e,Mu kW,Mr kW]
  exact⟨rfl,h.mono (Nat.le_succ i),fun _=>⟨rfl,rfl⟩⟩
theorem SM.new{c k:Nat}(hc:2≤2*c∧2*c≤64)(hk:16≤k∧k≤65536)(eO:64≤c*k):∃s,(J.new (2*c) k).bg c=(0,s)∧SM s c k 0 []:=by
 obtain⟨s1,b1,o1,m1⟩:=NM.new (c:=c) (k:=k) (by omega) eO
 have g0:av 0 (2*c*k) k (J.new (2*c) k):=av.new (2*c) k (by omega) hk
 have g1:=g0.vV c 1
 rw[b1] at g1
 exact⟨s1,o1,⟨⟨1,[],m1,RM.nil,by omega⟩,g1.mono (by omega),Nat.zero_le _,fun r hr=>by cases hr⟩⟩
end Go.Proofs.YtpbpiehcchannaaGreatDoor
namespace Go.Proofs.YtpbpiehcchannaaGreatDoor
set_option linter.unusedVariables false
set_option linter.unusedSimpArgs false
end Go.Proofs.YtpbpiehcchannaaGreatDoor
