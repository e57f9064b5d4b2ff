/- What records make of a bank's bytes: the plain law of scan. What writes make of a flash's bytes: the plain law of programs and erasures. What the bank's calls make of its records: the plain law. What Kill, Arm, On and the erasures make of a bank's records: the plain law. What Format, Ready and Head make of a bank; the bank that a law begins with: the plain law. Conditions: the premises of each law. -/
import Derived.Test.YtpbpiehcchannaaGreatDoorJGl
namespace Go.Proofs.YtpbpiehcchannaaGreatDoor
set_option linter.unusedVariables false
set_option linter.unusedSimpArgs false
theorem vH(m:Nat):∀n:Nat,dG (bz n (m:Int))=m%256^n
 | 0=>by simp[bz,dG,Nat.mod_one]
 | n+1=>by
  rw[B4,B5,vH m n,ec,Nat.mod_pow_succ]
  have e:((8*(n:Int)).toNat)=8*n:=by omega
  have h:((m:Int)/2^(8*(n:Int)).toNat%256).toNat=m/256^n%256:=by
   rw[e,show(2:Int)^(8*n)=((256^n:Nat):Int) by rw[show(256:Nat)=2^8 by rfl,←Nat.pow_mul];simp]
   omega
  rw[h]
  have h2:(UInt8.ofNat (m/256^n%256)).toNat=m/256^n%256:=by
   rw[UInt8.toNat_ofNat'];omega
  rw[h2];omega
def eN(c:Rc):List UInt8:=(if c.lv then 252 else 248)::bI c.key c.val
def bx(c:Rc):Nat:=12+c.key.length+c.val.length
structure qS(c:Rc):Prop where
 k:1≤c.key.length∧c.key.length≤255
 v:c.val.length≤65536
theorem nA(c:Rc):(eN c).length=bx c:=by
 simp only[eN,List.length_cons,sJ,bx];omega
theorem yk(c:Rc):eN c=(if c.lv then 252 else 248)::165::(bz 2 c.key.length++(bz 4 c.val.length++(bz 4 (mz c.key c.val)++(c.key++c.val)))):=by
 simp[eN,bI,sI,ny]
theorem Ow(c:Rc)(h:qS c)(y:List UInt8):iu (eN c++y)∧dY (eN c++y)=bx c∧dQ (eN c++y)=c.key∧eB (eN c++y)=c.val∧nz (eN c++y)=c.lv:=by
 have hk:=h.k
 have hv:=h.v
 have l2:=ec 2 c.key.length
 have l4:=ec 4 c.val.length
 have U5:=ec 4 (mz c.key c.val)
 have hK:bw (eN c++y)=c.key.length:=by
  unfold bw
  rw[yk]
  simp only[List.cons_append,List.drop_succ_cons,List.drop_zero,List.append_assoc]
  rw[List.take_append_of_le_length (by omega),List.take_of_length_le (by omega),vH]
  exact Nat.mod_eq_of_lt (by omega)
 have hV:fP (eN c++y)=c.val.length:=by
  unfold fP
  rw[yk]
  simp only[List.cons_append,List.drop_succ_cons,List.append_assoc]
  rw[List.drop_append_of_le_length (by omega),show(bz 2 (c.key.length:Int)).drop 2=[] from List.drop_of_length_le (by omega),List.nil_append,List.take_append_of_le_length (by omega),List.take_of_length_le (by omega),vH]
  exact Nat.mod_eq_of_lt (by omega)
 have hN:dY (eN c++y)=bx c:=by unfold dY bx;rw[hK,hV]
 have hlen:=nA c
 have Hh:(eN c++y).take (bx c)=eN c:=by rw[List.take_append_of_le_length (by omega),List.take_of_length_le (by omega)]
 have dz:dQ (eN c++y)=c.key:=by
  unfold dQ
  rw[hK,yk]
  simp only[List.cons_append,List.append_assoc]
  rw[show 12+c.key.length=10+c.key.length+1+1 by omega,List.take_succ_cons,List.take_succ_cons,show 12=10+1+1 by rfl,List.drop_succ_cons,List.drop_succ_cons]
  rw[←List.append_assoc (bz 2 _),←List.append_assoc (bz 2 _++_)]
  have hd:(bz 2 (c.key.length:Int)++bz 4 (c.val.length:Int)++bz 4 (mz c.key c.val)).length=10:=by simp only[List.length_append];omega
  rw[←hd,List.take_append,List.take_of_length_le (by omega),show(bz 2 (c.key.length:Int)++bz 4 (c.val.length:Int)++bz 4 (mz c.key c.val)).length+c.key.length - (bz 2 (c.key.length:Int)++bz 4 (c.val.length:Int)++bz 4 (mz c.key c.val)).length=c.key.length by omega,List.drop_left,List.take_left]
 have hval:eB (eN c++y)=c.val:=by
  unfold eB
  rw[hN,Hh,hK,yk]
  rw[show 12+c.key.length=10+c.key.length+1+1 by omega,List.drop_succ_cons,List.drop_succ_cons]
  rw[←List.append_assoc,←List.append_assoc,←List.append_assoc]
  exact List.drop_left' (by simp only[List.length_append];omega)
 have h0:(eN c++y).getD 0 0=if c.lv then 252 else 248:=rfl
 refine⟨⟨by rw[List.length_append,hlen];unfold bx;omega,?_,by omega,by omega,by omega,by rw[hN,List.length_append];omega,?_⟩,hN,dz,hval,?_⟩
 ·rw[h0];cases c.lv<;>simp
 ·rw[hN,Hh,dz,hval];rfl
 ·unfold nz;rw[h0];cases c.lv<;>rfl
def aF(l:List Rc):List UInt8:=l.flatMap eN
def jG:Nat→List Rc→Prop
 | _,[]=>True
 | a,c::l=>c.at_=a∧qS c∧jG (a+bx c) l
theorem pq(c:Rc)(l:List Rc):aF (c::l)=eN c++aF l:=rfl
theorem pv(l m:List Rc):aF (l++m)=aF l++aF m:=by simp[aF]
theorem Hi(c:Rc):∀(l:List Rc)(a:Nat),jG a (l++[c])↔jG a l∧c.at_=a+(aF l).length∧qS c
 | [],a=>by simp[jG,aF]
 | d::l,a=>by
  simp only[List.cons_append,jG,Hi c l,pq,List.length_append,nA,Nat.add_assoc,and_assoc]
theorem Hj(x y:List UInt8)(hy:∀b,y.head? =some b→b=255∨b=254):∀(l:List Rc)(a:Nat),a≤x.length→x.drop a=aF l++y→jG a l→cu x a=(l,a+(aF l).length,decide (y.head? ≠some 254))
 | [],a,ha,hx,_=>by
  have h0:x.drop a=y:=hx
  have h1:x[a]? =y.head?:=by rw[←h0,List.head?_drop]
  have ah:a<x.length↔y≠[]:=by
   rw[←h0];simp
  cases y with
  | nil=>
   rw[sO (fun q=>(ah.1 q.1) rfl)]
   simp[aF]
  | cons b y=>
   have jA:=ah.2 (by simp)
   have h2:x.getD a 0=b:=by rw[List.getD_eq_getElem?_getD,h1];rfl
   rcases hy b rfl with rfl | rfl
   ·rw[sO (fun q=>q.2 h2)]
    simp[aF]
   ·rw[vG ⟨jA,by rw[h2];decide⟩]
    ·simp[aF]
    ·intro hr
     have:=hr.2.1
     rw[h0] at this
     simp at this
 | c::l,a,ha,hx,hp=>by
  obtain⟨h1,h2,h3⟩:=hp
  rw[pq,List.append_assoc] at hx
  obtain⟨d1,d2,d3,d4,d5⟩:=Ow c h2 (aF l++y)
  rw[←hx] at d1 d2 d3 d4 d5
  have hl:bx c+(aF l++y).length=x.length - a:=by
   have:=congrArg List.length hx
   rw[List.length_drop,List.length_append,nA] at this
   omega
  have jA:a<x.length:=by
   have:12≤bx c:=by unfold bx;omega
   omega
  have aG:x.getD a 0≠255:=by
   have h5:x[a]? =(eN c++(aF l++y)).head?:=by rw[←hx,List.head?_drop]
   rw[List.getD_eq_getElem?_getD,h5]
   show(if c.lv then(252:UInt8) else 248)≠255
   cases c.lv<;>decide
  have tS:x.drop (a+bx c)=aF l++y:=by
   rw[←List.drop_drop,hx,←nA c]
   exact List.drop_left
  have ih:=Hj x y hy l (a+bx c) (by omega) tS h3
  rw[vF ⟨jA,aG⟩ d1,d2,ih,d3,d4,d5,←h1]
  simp only[pq,List.length_append,nA,Nat.add_assoc]
def pw:List UInt8→Nat→List UInt8→List UInt8
 | [],_,c=>c
 | b::m,k,c=>pw m (k+1) (c.set k (c.getD k 0&&&b))
theorem Cv:∀(m q p r:List UInt8),q.length=m.length→pw m p.length (p++(q++r))=p++(List.zipWith (· &&& ·) q m++r)
 | [],q,p,r,h=>by
  obtain rfl:=List.eq_nil_of_length_eq_zero (show q.length=0 from h)
  rfl
 | b::m,[],p,r,h=>by simp at h
 | b::m,d::q,p,r,h=>by
  have h':q.length=m.length:=by simpa using h
  have e1:(p++(d::q++r)).getD p.length 0=d:=by
   rw[List.getD_eq_getElem?_getD,List.getElem?_append_right (Nat.le_refl _)];simp
  have e2:(p++(d::q++r)).set p.length (d&&&b)=(p++[d&&&b])++(q++r):=by
   rw[List.set_append_right _ _ (Nat.le_refl _)];simp
  rw[pw,e1,e2]
  have ih:=Cv m q (p++[d&&&b]) r h'
  rw[List.length_append,List.length_singleton] at ih
  rw[ih]
  simp
theorem Cw(b:UInt8):255&&&b=b:=by
 have:(255:UInt8)= -1:=rfl
 rw[this];exact UInt8.neg_one_and
theorem yl:∀(m:List UInt8),List.zipWith (· &&& ·) (List.replicate m.length 255) m=m
 | []=>rfl
 | b::m=>by
  show((255:UInt8)&&&b)::List.zipWith (· &&& ·) (List.replicate m.length 255) m=b::m
  rw[yl m,Cw]
theorem Hk:∀(m:List UInt8)(k:Nat)(c:List UInt8)(left w:Int),(left≤0∨(m.length:Int)<left)→eV m k c left w=(0,pw m k c,if 0<left then left - m.length else left,false,w+m.length)
 | [],k,c,left,w,h=>by
  simp only[eV,pw,List.length_nil]
  refine Prod.ext rfl (Prod.ext rfl (Prod.ext ?_ (Prod.ext rfl ?_)))
  ·show left=if 0<left then left - ((0:Nat):Int) else left
   split<;>simp
  ·show w=w+((0:Nat):Int)
   simp
 | b::m,k,c,left,w,h=>by
  simp only[List.length_cons] at h⊢
  have h1:¬(0<left∧left - 1=0):=by omega
  rw[eV,if_neg h1,Hk m (k+1) _ _ (w+1) (by split<;>omega),pw]
  refine Prod.ext rfl (Prod.ext rfl (Prod.ext ?_ (Prod.ext rfl ?_)))
  ·by_cases h2:0<left
   ·rw[if_pos h2,if_pos (by show 0<left - 1;omega),if_pos h2];show left - 1 - (m.length:Int)=left - ((m.length+1:Nat):Int);omega
   ·simp only[if_neg h2]
  ·show w+1+(m.length:Int)=w+((m.length+1:Nat):Int);omega
theorem Hl:∀(m:List UInt8)(k:Nat)(c:List UInt8)(left w:Int),0<left→left≤m.length→eV m k c left w=(6,pw (m.take (left.toNat - 1)) k c,0,true,w+(left - 1))
 | [],k,c,left,w,h,h2=>by simp at h2;omega
 | b::m,k,c,left,w,h,h2=>by
  simp only[List.length_cons] at h2
  by_cases h1:left=1
  ·subst h1
   rw[eV,if_pos (by decide)]
   refine Prod.ext rfl (Prod.ext rfl (Prod.ext rfl (Prod.ext rfl ?_)))
   show w=w+(1 - 1);omega
  ·rw[eV,if_neg (by omega),if_pos h,Hl m (k+1) _ (left - 1) (w+1) (by omega) (by omega)]
   rw[show left.toNat - 1=((left - 1).toNat - 1)+1 by omega,List.take_succ_cons,pw]
   refine Prod.ext rfl (Prod.ext rfl (Prod.ext rfl (Prod.ext rfl ?_)))
   show w+1+(left - 1 - 1)=w+(left - 1);omega
theorem nB {s : U} {A : Int} {m p q r : List UInt8} (hd : s.dd = false) (hA : A = p.length) (hq : q.length = m.length) (hl : s.l = p ++ (q ++ r)) (h : s.ar ≤ 0 ∨ (m.length : Int) < s.ar) :
    s.prog A m=(0,⟨p++(List.zipWith (· &&& ·) q m++r),s.k,if 0<s.ar then s.ar - m.length else s.ar,s.pt,false,s.wr+m.length⟩):=by
 have hlen:s.l.length=p.length+(q.length+r.length):=by rw[hl];simp
 unfold U.prog
 rw[hd,if_neg (by simp),if_pos (by omega),hA,Int.toNat_natCast,Hk m p.length s.l s.ar s.wr h,hl,Cv m q p r hq]
theorem sP {s : U} {A : Int} {m p q r : List UInt8} (hd : s.dd = false) (hA : A = p.length) (hq : q.length = m.length) (hl : s.l = p ++ (q ++ r)) (h : 0 < s.ar) (h2 : s.ar ≤ m.length) :
    s.prog A m=(6,⟨p++(List.zipWith (· &&& ·) (q.take (s.ar.toNat - 1)) (m.take (s.ar.toNat - 1))++(q.drop (s.ar.toNat - 1)++r)),s.k,0,s.pt,true,s.wr+(s.ar - 1)⟩):=by
 have hlen:s.l.length=p.length+(q.length+r.length):=by rw[hl];simp
 unfold U.prog
 rw[hd,if_neg (by simp),if_pos (by omega),hA,Int.toNat_natCast,Hl m p.length s.l s.ar s.wr h h2,hl]
 have e:q++r=q.take (s.ar.toNat - 1)++(q.drop (s.ar.toNat - 1)++r):=by rw[←List.append_assoc,List.take_append_drop]
 rw[e,Cv _ (q.take (s.ar.toNat - 1)) p _ (by simp[hq])]
theorem Cx:∀(n:Nat)(p q r:List UInt8),q.length=n→iv (p++(q++r)) p.length n=p++(List.replicate n 255++r)
 | 0,p,q,r,h=>by
  obtain rfl:=List.eq_nil_of_length_eq_zero h
  rfl
 | n+1,p,q,r,h=>by
  have aG:q≠[]:=by intro e;simp[e] at h
  have hq:q=q.dropLast++[q.getLast aG]:=(List.dropLast_concat_getLast aG).symm
  have hd:q.dropLast.length=n:=by simp;omega
  have ih:=Cx n p q.dropLast (q.getLast aG::r) hd
  have e:p++(q++r)=p++(q.dropLast++(q.getLast aG::r)):=by
   conv=>lhs;rw[hq]
   simp
  rw[iv,e,ih,←List.append_assoc,List.set_append_right _ _ (by simp),List.length_append,List.length_replicate,Nat.sub_self]
  simp[List.replicate_succ']
theorem U.ext{s t:U}(h1:s.l=t.l)(h2:s.k=t.k)(h3:s.ar=t.ar)(h4:s.pt=t.pt)(h5:s.dd=t.dd)(h6:s.wr=t.wr):s=t:=by
 cases s;cases t;simp_all
theorem mD{m n:Nat}(h:n≤m)(b:UInt8)(r:List UInt8):List.replicate m b++r=List.replicate n b++(List.replicate (m - n) b++r):=by
 rw[←List.append_assoc,List.replicate_append_replicate,Nat.add_sub_cancel' h]
theorem Ox {s : U} {A : Int} {d : Rc} {p r : List UInt8} {m : Nat} (hd : s.dd = false) (hA : A = p.length) (hl : s.l = p ++ (List.replicate m 255 ++ r)) (hm : bx d ≤ m) (hc : d.lv = true) (h : s.ar ≤ 0 ∨ (bx d + 1 : Int) < s.ar) :
    s.jE A d.key d.val=(0,⟨p++(eN d++(List.replicate (m - bx d) 255++r)),s.k,if 0<s.ar then s.ar - (bx d+1) else s.ar,s.pt,false,s.wr+(bx d+1)⟩):=by
 have hL:(bI d.key d.val).length+1=bx d:=by rw[sJ];unfold bx;omega
 have U6:((bI d.key d.val).length:Int)+1=bx d:=by omega
 have e1:s.prog A [254]=(0,⟨p++([254]++(List.replicate (m - 1) 255++r)),s.k,if 0<s.ar then s.ar - 1 else s.ar,s.pt,false,s.wr+1⟩):=
  nB (m:=[254]) (p:=p) (q:=[255]) (r:=List.replicate (m - 1) 255++r) hd hA rfl (by rw[hl,mD (by omega:1≤m)];rfl) (by simp only[List.length_singleton];omega)
 have e2:U.prog ⟨p++([254]++(List.replicate (m - 1) 255++r)),s.k,if 0<s.ar then s.ar - 1 else s.ar,s.pt,false,s.wr+1⟩ (A+1) (bI d.key d.val)=(0,⟨p++([254]++(bI d.key d.val++(List.replicate (m - bx d) 255++r))),s.k,if 0<s.ar then s.ar - bx d else s.ar,s.pt,false,s.wr+bx d⟩):=by
  rw[nB (m:=bI d.key d.val) (p:=p++[254]) (q:=List.replicate (bI d.key d.val).length 255) (r:=List.replicate (m - bx d) 255++r) rfl (by rw[hA];simp) (by simp) (by
   show p++([254]++(List.replicate (m - 1) 255++r))=_
   rw[mD (by omega:(bI d.key d.val).length≤m - 1),show m - 1 - (bI d.key d.val).length=m - bx d by omega]
   simp) (by show(if 0<s.ar then s.ar - 1 else s.ar)≤0∨((bI d.key d.val).length:Int)< (if 0<s.ar then s.ar - 1 else s.ar);split<;>omega),yl,List.append_assoc]
  refine Prod.ext rfl (U.ext rfl rfl ?_ rfl rfl ?_)
  ·show(if 0< (if 0<s.ar then s.ar - 1 else s.ar) then(if 0<s.ar then s.ar - 1 else s.ar) - ((bI d.key d.val).length:Int) else(if 0<s.ar then s.ar - 1 else s.ar))=_
   by_cases h0:0<s.ar
   ·simp only[if_pos h0];rw[if_pos (by omega)];omega
   ·simp only[if_neg h0]
  ·show s.wr+1+((bI d.key d.val).length:Int)=s.wr+bx d;omega
 have e3:U.prog ⟨p++([254]++(bI d.key d.val++(List.replicate (m - bx d) 255++r))),s.k,if 0<s.ar then s.ar - bx d else s.ar,s.pt,false,s.wr+bx d⟩ A [252]=(0,⟨p++(eN d++(List.replicate (m - bx d) 255++r)),s.k,if 0<s.ar then s.ar - (bx d+1) else s.ar,s.pt,false,s.wr+(bx d+1)⟩):=by
  rw[nB (m:=[252]) (p:=p) (q:=[254]) (r:=bI d.key d.val++(List.replicate (m - bx d) 255++r)) rfl hA rfl rfl (by show(if 0<s.ar then s.ar - bx d else s.ar)≤0∨(([252]:List UInt8).length:Int)< (if 0<s.ar then s.ar - bx d else s.ar);simp only[List.length_singleton];split<;>omega)]
  refine Prod.ext rfl (U.ext ?_ rfl ?_ rfl rfl ?_)
  ·show p++([252]++(bI d.key d.val++(List.replicate (m - bx d) 255++r)))=_
   simp[eN,hc]
  ·show(if 0< (if 0<s.ar then s.ar - (bx d:Int) else s.ar) then(if 0<s.ar then s.ar - (bx d:Int) else s.ar) - ((([252]:List UInt8).length:Nat):Int) else(if 0<s.ar then s.ar - (bx d:Int) else s.ar))=_
   simp only[List.length_singleton]
   by_cases h0:0<s.ar
   ·simp only[if_pos h0];rw[if_pos (by omega)];omega
   ·simp only[if_neg h0]
  ·show s.wr+(bx d:Int)+(([252]:List UInt8).length:Int)=s.wr+(bx d+1);simp only[List.length_singleton];omega
 unfold U.jE
 rw[e1]
 rw[if_neg (by simp)]
 rw[e2]
 rw[if_neg (by simp)]
 exact e3
theorem Oy {s : U} {A : Int} {d : Rc} {p r : List UInt8} {m : Nat} (hd : s.dd = false) (hA : A = p.length) (hl : s.l = p ++ (List.replicate m 255 ++ r)) (hm : bx d ≤ m) (h0 : 0 < s.ar) (h : s.ar ≤ (bx d + 1 : Int)) :
    ∃(y:List UInt8)(w:Int),s.jE A d.key d.val=(6,⟨p++(y++r),s.k,0,s.pt,true,w⟩)∧y.length=m∧(y=List.replicate m 255∨y.head? =some 254):=by
 have hL:(bI d.key d.val).length+1=bx d:=by rw[sJ];unfold bx;omega
 have kr:12≤bx d:=by unfold bx;omega
 have lY:m=m - 1+1:=by omega
 by_cases sQ:s.ar=1
 ·have e1:=sP (s:=s) (A:=A) (m:=[254]) (p:=p) (q:=[255]) (r:=List.replicate (m - 1) 255++r) hd hA rfl (by rw[hl,mD (by omega:1≤m)];rfl) h0 (by simp only[List.length_singleton];omega)
  refine⟨List.replicate m 255,s.wr+(s.ar - 1),?_,by simp,.inl rfl⟩
  ·unfold U.jE
   rw[e1,if_pos (by simp),sQ]
   rw[mD (by omega:1≤m)]
   rfl
 have e1:s.prog A [254]=(0,⟨p++([254]++(List.replicate (m - 1) 255++r)),s.k,s.ar - 1,s.pt,false,s.wr+1⟩):=by
  rw[nB (m:=[254]) (p:=p) (q:=[255]) (r:=List.replicate (m - 1) 255++r) hd hA rfl (by rw[hl,mD (by omega:1≤m)];rfl) (by simp only[List.length_singleton];omega),if_pos h0]
  rfl
 by_cases U7:s.ar≤bx d
 ·have e2:=sP (s:=⟨p++([254]++(List.replicate (m - 1) 255++r)),s.k,s.ar - 1,s.pt,false,s.wr+1⟩) (A:=A+1) (m:=bI d.key d.val) (p:=p++[254]) (q:=List.replicate (bI d.key d.val).length 255) (r:=List.replicate (m - bx d) 255++r) rfl (by rw[hA];simp) (by simp) (by
    show p++([254]++(List.replicate (m - 1) 255++r))=_
    rw[mD (by omega:(bI d.key d.val).length≤m - 1),show m - 1 - (bI d.key d.val).length=m - bx d by omega]
    simp) (by show 0<s.ar - 1;omega) (by show s.ar - 1≤((bI d.key d.val).length:Int);omega)
  refine⟨[254]++(List.zipWith (· &&& ·) ((List.replicate (bI d.key d.val).length 255).take ((s.ar - 1).toNat - 1)) ((bI d.key d.val).take ((s.ar - 1).toNat - 1))++((List.replicate (bI d.key d.val).length 255).drop ((s.ar - 1).toNat - 1)++List.replicate (m - bx d) 255)),s.wr+1+(s.ar - 1 - 1),?_,?_,.inr (by rw[List.cons_append,List.head?_cons])⟩
  ·unfold U.jE
   rw[e1,if_neg (by simp),e2,if_pos (by simp)]
   simp only[List.append_assoc]
  ·simp;omega
 ·have U8:s.ar=bx d+1:=by omega
  have e2:U.prog ⟨p++([254]++(List.replicate (m - 1) 255++r)),s.k,s.ar - 1,s.pt,false,s.wr+1⟩ (A+1) (bI d.key d.val)=(0,⟨p++([254]++(bI d.key d.val++(List.replicate (m - bx d) 255++r))),s.k,1,s.pt,false,s.wr+bx d⟩):=by
   rw[nB (m:=bI d.key d.val) (p:=p++[254]) (q:=List.replicate (bI d.key d.val).length 255) (r:=List.replicate (m - bx d) 255++r) rfl (by rw[hA];simp) (by simp) (by
    show p++([254]++(List.replicate (m - 1) 255++r))=_
    rw[mD (by omega:(bI d.key d.val).length≤m - 1),show m - 1 - (bI d.key d.val).length=m - bx d by omega]
    simp) (by show s.ar - 1≤0∨((bI d.key d.val).length:Int)<s.ar - 1;omega),yl,List.append_assoc]
   refine Prod.ext rfl (U.ext rfl rfl ?_ rfl rfl ?_)
   ·show(if 0<s.ar - 1 then s.ar - 1 - ((bI d.key d.val).length:Int) else s.ar - 1)=1
    rw[if_pos (by omega)];omega
   ·show s.wr+1+((bI d.key d.val).length:Int)=s.wr+bx d;omega
  have e3:=sP (s:=⟨p++([254]++(bI d.key d.val++(List.replicate (m - bx d) 255++r))),s.k,1,s.pt,false,s.wr+bx d⟩) (A:=A) (m:=[252]) (p:=p) (q:=[254]) (r:=bI d.key d.val++(List.replicate (m - bx d) 255++r)) rfl hA rfl rfl (by show(0:Int)<1;decide) (by show(1:Int)≤_;decide)
  refine⟨[254]++(bI d.key d.val++List.replicate (m - bx d) 255),s.wr+bx d+(1 - 1),?_,by simp;omega,.inr (by rw[List.cons_append,List.head?_cons])⟩
  unfold U.jE
  rw[e1,if_neg (by simp),e2,if_neg (by simp),e3]
  simp
structure BI(s:U)(a c:Nat)(P H:List UInt8)(l:List Rc)(m:Nat)(Q:List UInt8):Prop where
 iJ:s.l=P++(H++(aF l++(List.replicate m 255++Q)))
 P:P.length=a*s.k
 H:H.length=16
 n:16+(aF l).length+m=c*s.k
 pl:jG 16 l
 dd:s.dd=false
theorem Oz{s:U}{a c:Nat}{P X Q:List UInt8}(hl:s.l=P++(X++Q))(hP:P.length=a*s.k)(hX:X.length=c*s.k):s.cZ a c=X:=by
 unfold U.cZ
 rw[hl,←hP,List.drop_left,←hX,List.take_left]
theorem Hm {s : U} {a c : Nat} {P H y Q : List UInt8} {l : List Rc} (hl : s.l = P ++ (H ++ (aF l ++ (y ++ Q)))) (hP : P.length = a * s.k) (hH : H.length = 16) (hn : 16 + (aF l).length + y.length = c * s.k) (hp : jG 16 l)
    (hy:∀b,y.head? =some b→b=255∨b=254):s.scan a c=(l,16+(aF l).length,decide (y.head? ≠some 254)):=by
 have hb:s.cZ a c=H++(aF l++y):=Oz (P:=P) (Q:=Q) (by rw[hl];simp) hP (by simp only[List.length_append];omega)
 unfold U.scan
 rw[hb]
 exact Hj (H++(aF l++y)) y hy l 16 (by simp only[List.length_append];omega) (by rw[←hH,List.drop_left]) hp
theorem Cy{m:Nat}{b:UInt8}(h:(List.replicate m (255:UInt8)).head? =some b):b=255:=by
 cases m with
 | zero=>simp at h
 | succ m=>rw[List.replicate_succ] at h;exact(Option.some.inj h).symm
theorem OA(m:Nat):decide ((List.replicate m (255:UInt8)).head? ≠some 254)=true:=by
 rw[decide_eq_true_iff]
 intro h
 exact absurd (Cy h) (by decide)
section
variable {s:U} {a c:Nat} {P H:List UInt8} {l:List Rc} {m:Nat} {Q:List UInt8}
theorem BI.scan(h:BI s a c P H l m Q):s.scan a c=(l,16+(aF l).length,true):=by
 rw[Hm h.iJ h.P h.H (by rw[List.length_replicate];exact h.n) h.pl (fun b hb=> .inl (Cy hb)),OA]
theorem add_eq{s:U}{a c:Nat}{d:Rc}(ho:qS d)(hd:s.dd=false){l:List Rc}{e:Nat}(hs:s.scan a c=(l,e,true))(he:bx d+e≤c*s.k):s.add a c d.key d.val=s.jE ((a:Int)*s.k+(e:Int)) d.key d.val:=by
 have hk:=ho.k
 have hv:=ho.v
 have hle:((bx d+e:Nat):Int)≤((c*s.k:Nat):Int):=by exact_mod_cast he
 unfold bx at hle
 rw[Int.natCast_mul] at hle
 unfold U.add
 rw[if_neg (by omega),hd,if_neg (by simp),hs,if_neg (by simp),if_neg (by simp only;omega)]
theorem BI.Cz (h : BI s a c P H l m Q) {d : Rc} (ho : qS d) (hl : d.lv = true) (cK : d.at_ = 16 + (aF l).length) (hm : bx d ≤ m) (gp : s.ar ≤ 0 ∨ (bx d + 1 : Int) < s.ar) :
    ∃s',s.add a c d.key d.val=(0,s')∧BI s' a c P H (l++[d]) (m - bx d) Q∧s'.k=s.k∧s'.ar=if 0<s.ar then s.ar - (bx d+1) else s.ar:=by
 have hn:=h.n
 have hH:=h.H
 have hP:=h.P
 have e:=Ox (s:=s) (A:=(a:Int)*s.k+((16+(aF l).length:Nat):Int)) (d:=d) (p:=P++(H++aF l)) (r:=Q) (m:=m) h.dd (by
  simp only[List.length_append,hH,hP,Int.natCast_add,Int.natCast_mul]) (by rw[h.iJ];simp) hm hl gp
 rw[add_eq ho h.dd h.scan (by omega),e]
 refine⟨_,rfl,⟨?_,hP,hH,?_,(Hi d l 16).2 ⟨h.pl,cK,ho⟩,rfl⟩,rfl,rfl⟩
 ·simp[pv,aF]
 ·rw[pv,List.length_append]
  simp only[aF,List.flatMap_cons,List.flatMap_nil,List.append_nil,nA]
  show 16+((List.flatMap eN l).length+bx d)+(m - bx d)=c*s.k
  have:(List.flatMap eN l).length=(aF l).length:=rfl
  omega
end
theorem CA:∀(l l2:List Rc)(a:Nat),jG a (l++l2)↔jG a l∧jG (a+(aF l).length) l2
 | [],l2,a=>by simp[jG,aF]
 | d::l,l2,a=>by
  simp only[List.cons_append,jG,CA l l2,pq,List.length_append,nA,Nat.add_assoc,and_assoc]
def Rc.die(d:Rc):Rc:=⟨d.key,d.val,false,d.at_⟩
theorem ym{l1 l2:List Rc}{d:Rc}{a:Nat}(h:jG a (l1++d::l2)):d.at_=a+(aF l1).length∧qS d∧jG a (l1++d.die::l2):=by
 rw[CA] at h
 obtain⟨h1,h2,h3,h4⟩:=h
 exact⟨h2,h3,(CA _ _ _).2 ⟨h1,h2,⟨h3.k,h3.v⟩,h4⟩⟩
section
variable {s:U} {a c:Nat} {P H:List UInt8} {l l1 l2:List Rc} {d:Rc} {m:Nat} {Q:List UInt8}
theorem BI.CB(h:BI s a c P H (l1++d::l2) m Q):s.kill a c (l1.length:Int)=s.prog ((P++(H++aF l1)).length:Int) [248]:=by
 obtain⟨h1,h2,h3⟩:=ym h.pl
 unfold U.kill
 rw[h.dd,if_neg (by simp),h.scan,if_neg (by simp only[List.length_append,List.length_cons];omega)]
 have e:((l1++d::l2).map fun r=>(r.at_:Int)).getD (l1.length:Int).toNat 0=d.at_:=by
  rw[Int.toNat_natCast,List.getD_eq_getElem?_getD,List.map_append,List.getElem?_append_right (by simp)]
  simp
 have e2:((a:Int)*s.k+(d.at_:Int))=((P++(H++aF l1)).length:Int):=by
  rw[h1]
  simp only[List.length_append,h.P,h.H,Int.natCast_add,Int.natCast_mul]
 simp only[e,e2]
theorem BI.vI(h:BI s a c P H (l1++d::l2) m Q):s.l=(P++(H++aF l1))++([if d.lv then 252 else 248]++(bI d.key d.val++(aF l2++(List.replicate m 255++Q)))):=by
 rw[h.iJ,pv,pq]
 simp[eN]
theorem Hn(l1 l2:List Rc)(d:Rc)(y:List UInt8):(P++(H++aF l1))++([248]++(bI d.key d.val++(aF l2++y)))=P++(H++(aF (l1++d.die::l2)++y)):=by
 rw[pv,pq]
 simp[eN,Rc.die]
theorem Ho(l1 l2:List Rc)(d:Rc):(aF (l1++d.die::l2)).length=(aF (l1++d::l2)).length:=by
 simp only[pv,pq,List.length_append,nA]
 rfl
theorem BI.Hp (h : BI s a c P H (l1 ++ d :: l2) m Q) (gp : s.ar ≤ 0 ∨ 1 < s.ar) :
    ∃s',s.kill a c (l1.length:Int)=(0,s')∧BI s' a c P H (l1++d.die::l2) m Q∧s'.k=s.k∧s'.ar=if 0<s.ar then s.ar - 1 else s.ar:=by
 rw[h.CB,nB (m:=[248]) (p:=P++(H++aF l1)) (q:=[if d.lv then 252 else 248]) h.dd rfl rfl h.vI (by simp only[List.length_singleton];omega)]
 have hz:List.zipWith (· &&& ·) [if d.lv then(252:UInt8) else 248] [248]=[248]:=by cases d.lv<;>rfl
 rw[hz,Hn]
 refine⟨_,rfl,⟨rfl,h.P,h.H,?_,(ym h.pl).2.2,rfl⟩,rfl,rfl⟩
 rw[Ho];exact h.n
theorem Hq {x : Nat} {X : List UInt8} (hd : s.dd = false) (hk : 0 < s.k) (hl : s.l = P ++ (X ++ Q)) (hP : P.length = x * s.k) (hX : X.length = s.k) :
    (s.ar≤0∨1<s.ar→s.erase (x:Int)=(0,⟨P++(List.replicate s.k 255++Q),s.k,if 0<s.ar then s.ar - 1 else s.ar,s.pt,false,s.wr+1⟩))∧
    (s.ar=1→s.erase (x:Int)=(6,⟨P++(List.replicate (min s.pt (s.k:Int)).toNat 255++(X.drop (min s.pt (s.k:Int)).toNat++Q)),s.k,0,s.pt,true,s.wr⟩)):=by
 have hlen:s.l.length=x*s.k+(s.k+Q.length):=by rw[hl,List.length_append,List.length_append,hP,hX]
 have c7:0≤(x:Int)∧(x:Int)< (s.l.length:Int)/(s.k:Int):=by
  refine⟨by omega,?_⟩
  rw[←Int.natCast_ediv]
  have:x+1≤s.l.length/s.k:=(Nat.le_div_iff_mul_le hk).2 (by rw[hlen,Nat.add_mul];omega)
  omega
 constructor
 ·intro ha
  have hg:s.goes=false:=by
   unfold U.goes
   split
   ·rw[decide_eq_false_iff_not];omega
   ·rfl
  unfold U.erase
  rw[hd,if_neg (by simp),if_pos c7,hg]
  simp only[Bool.false_eq_true,if_false,Int.toNat_natCast]
  rw[hl,←hP,Cx s.k P X Q hX]
 ·intro ha
  have hg:s.goes=true:=by
   unfold U.goes
   rw[ha];rfl
  have hle:(min s.pt (s.k:Int)).toNat≤s.k:=by omega
  have e:X++Q=X.take (min s.pt (s.k:Int)).toNat++(X.drop (min s.pt (s.k:Int)).toNat++Q):=by rw[←List.append_assoc,List.take_append_drop]
  unfold U.erase
  rw[hd,if_neg (by simp),if_pos c7,hg]
  simp only[if_true,Int.toNat_natCast]
  rw[hl,←hP,e,Cx _ P (X.take (min s.pt (s.k:Int)).toNat) _ (by rw[List.length_take,hX];omega),ha]
  rfl
theorem yn : ∀ (c : Nat) (X Q : List UInt8), s.dd = false → 0 < s.k → s.l = P ++ (X ++ Q) → P.length = a * s.k → X.length = c * s.k → (s.ar ≤ 0 ∨ (c : Int) < s.ar) →
    s.cS a c=(0,⟨P++(List.replicate (c*s.k) 255++Q),s.k,if 0<s.ar then s.ar - c else s.ar,s.pt,false,s.wr+c⟩)
 | 0,X,Q,hd,hk,hl,hP,hX,h=>by
  obtain rfl:=List.eq_nil_of_length_eq_zero (by rw[hX];simp:X.length=0)
  refine Prod.ext rfl (U.ext ?_ rfl ?_ rfl hd ?_)
  ·show s.l=P++(List.replicate (0*s.k) 255++Q)
   rw[hl,Nat.zero_mul];rfl
  ·show s.ar=if 0<s.ar then s.ar - ((0:Nat):Int) else s.ar
   split<;>simp
  ·show s.wr=s.wr+((0:Nat):Int);simp
 | c+1,X,Q,hd,hk,hl,hP,hX,h=>by
  have Hr:X.length=c*s.k+s.k:=by rw[hX,Nat.add_mul];omega
  have e:X++Q=X.take (c*s.k)++(X.drop (c*s.k)++Q):=by rw[←List.append_assoc,List.take_append_drop]
  have ih:=yn c (X.take (c*s.k)) (X.drop (c*s.k)++Q) hd hk (by rw[hl,e]) hP (by rw[List.length_take];omega) (by omega)
  unfold U.cS
  rw[ih]
  simp only[if_true]
  have he:=(Hq (s:=⟨P++(List.replicate (c*s.k) 255++(X.drop (c*s.k)++Q)),s.k,if 0<s.ar then s.ar - c else s.ar,s.pt,false,s.wr+c⟩) (x:=a+c) (P:=P++List.replicate (c*s.k) 255) (X:=X.drop (c*s.k)) (Q:=Q) rfl hk (by simp) (by simp[hP,Nat.add_mul]) (by rw[List.length_drop];show X.length - c*s.k=s.k;omega)).1 (by show(if 0<s.ar then s.ar - (c:Int) else s.ar)≤0∨1< (if 0<s.ar then s.ar - (c:Int) else s.ar);split<;>omega)
  rw[show((a:Int)+(c:Int))=((a+c:Nat):Int) by omega,he]
  refine Prod.ext rfl (U.ext ?_ rfl ?_ rfl rfl ?_)
  ·show P++List.replicate (c*s.k) 255++(List.replicate s.k 255++Q)=P++(List.replicate ((c+1)*s.k) 255++Q)
   rw[List.append_assoc,←List.append_assoc (List.replicate _ _),List.replicate_append_replicate,Nat.add_mul,Nat.one_mul]
  ·show(if 0< (if 0<s.ar then s.ar - (c:Int) else s.ar) then(if 0<s.ar then s.ar - (c:Int) else s.ar) - 1 else(if 0<s.ar then s.ar - (c:Int) else s.ar))=if 0<s.ar then s.ar - ((c+1:Nat):Int) else s.ar
   by_cases h0:0<s.ar
   ·simp only[if_pos h0];rw[if_pos (by omega)];omega
   ·simp only[if_neg h0]
  ·show s.wr+(c:Int)+1=s.wr+((c+1:Nat):Int);omega
theorem OB {a c : Nat} {P Q X : List UInt8} (hd : s.dd = false) (hk : 0 < s.k) (hl : s.l = P ++ (X ++ Q)) (hP : P.length = a * s.k) (hX : X.length = c * s.k) (h0 : 0 < s.ar) (h : s.ar ≤ (c : Int)) :
    ∃(Y:List UInt8)(w:Int),s.cS a c=(6,⟨P++(Y++Q),s.k,0,s.pt,true,w⟩)∧Y.length=X.length∧(Y=X∨Y.head? =some 255):=by
 obtain⟨j,hj⟩:∃j:Nat,s.ar=(j:Int)+1:=⟨(s.ar - 1).toNat,by omega⟩
 have Hs:j+1≤c:=by omega
 have hmul:(j+1)*s.k≤c*s.k:=Nat.mul_le_mul_right _ Hs
 rw[Nat.add_mul,Nat.one_mul] at hmul
 have e:X++Q=X.take (j*s.k)++(X.drop (j*s.k)++Q):=by rw[←List.append_assoc,List.take_append_drop]
 have e2:X.drop (j*s.k)++Q=(X.drop (j*s.k)).take s.k++((X.drop (j*s.k)).drop s.k++Q):=by rw[←List.append_assoc,List.take_append_drop]
 have h1:=yn (s:=s) (a:=a) (P:=P) j (X.take (j*s.k)) (X.drop (j*s.k)++Q) hd hk (by rw[hl,e]) hP (by rw[List.length_take];omega) (by omega)
 have he:=(Hq (s:=⟨P++(List.replicate (j*s.k) 255++(X.drop (j*s.k)++Q)),s.k,if 0<s.ar then s.ar - j else s.ar,s.pt,false,s.wr+j⟩) (x:=a+j) (P:=P++List.replicate (j*s.k) 255) (X:=(X.drop (j*s.k)).take s.k) (Q:=(X.drop (j*s.k)).drop s.k++Q) rfl hk (by show P++(List.replicate (j*s.k) 255++(X.drop (j*s.k)++Q))=_;rw[e2,List.append_assoc]) (by simp[hP,Nat.add_mul]) (by rw[List.length_take,List.length_drop];show min s.k (X.length - j*s.k)=s.k;omega)).2 (by show(if 0<s.ar then s.ar - (j:Int) else s.ar)=1;rw[if_pos h0];omega)
 have hw:s.cS a (j+1)=(6,⟨P++List.replicate (j*s.k) 255++(List.replicate (min s.pt (s.k:Int)).toNat 255++(((X.drop (j*s.k)).take s.k).drop (min s.pt (s.k:Int)).toNat++((X.drop (j*s.k)).drop s.k++Q))),s.k,0,s.pt,true,s.wr+j⟩):=by
  rw[U.cS,h1]
  simp only[if_true]
  rw[show((a:Int)+(j:Int))=((a+j:Nat):Int) by omega,he]
 have hc:s.cS a c=s.cS a (j+1):=by
  have:=Cp s a (m:=j+1) (by rw[hw];simp) (c - (j+1))
  rw[Nat.add_sub_cancel' Hs] at this
  exact this
 rw[hc,hw]
 generalize hn:(min s.pt (s.k:Int)).toNat=n
 have sR:n≤s.k:=by omega
 refine⟨List.replicate (j*s.k) 255++(List.replicate n 255++(((X.drop (j*s.k)).take s.k).drop n++(X.drop (j*s.k)).drop s.k)),s.wr+j,by simp,?_,?_⟩
 ·simp only[List.length_append,List.length_replicate,List.length_drop,List.length_take];omega
 ·by_cases Ht:j=0
  ·subst Ht
   cases n with
   | zero=>left;simp
   | succ n=>right;simp[List.replicate_succ]
  ·right
   have:j*s.k=(j*s.k - 1)+1:=by have:=Nat.mul_pos (Nat.pos_of_ne_zero Ht) hk;omega
   rw[this,List.replicate_succ];rfl
end
section
variable {s:U} {a c:Nat} {P X:List UInt8} {m:Nat} {Q:List UInt8} {g:Int}
theorem Hu (hd : s.dd = false) (hk : 0 < s.k) (hl : s.l = P ++ (X ++ Q)) (hP : P.length = a * s.k) (hX : X.length = c * s.k) (kr : 12 ≤ c * s.k) (h : s.ar ≤ 0 ∨ (c : Int) + 12 < s.ar) :
    s.format a c g=(0,⟨P++(cY g++(List.replicate (c*s.k - 12) 255++Q)),s.k,if 0<s.ar then s.ar - (c+12) else s.ar,s.pt,false,s.wr+(c+12)⟩):=by
 have hB:=jD g
 unfold U.format
 rw[yn c X Q hd hk hl hP hX (by omega),if_pos rfl]
 rw[nB (m:=cY g) (p:=P) (q:=List.replicate (cY g).length 255) (r:=List.replicate (c*s.k - 12) 255++Q) rfl (by show(a:Int)*(s.k:Int)=_;rw[hP,Int.natCast_mul]) (by simp) (by show P++(List.replicate (c*s.k) 255++Q)=_;rw[hB,mD kr]) (by rw[hB];show(if 0<s.ar then s.ar - (c:Int) else s.ar)≤0∨((12:Nat):Int)< (if 0<s.ar then s.ar - (c:Int) else s.ar);split<;>omega),yl]
 refine Prod.ext rfl (U.ext rfl rfl ?_ rfl rfl ?_)
 ·rw[hB]
  show(if 0< (if 0<s.ar then s.ar - (c:Int) else s.ar) then(if 0<s.ar then s.ar - (c:Int) else s.ar) - ((12:Nat):Int) else(if 0<s.ar then s.ar - (c:Int) else s.ar))=_
  by_cases h0:0<s.ar
  ·simp only[if_pos h0];rw[if_pos (by omega)];omega
  ·simp only[if_neg h0]
 ·rw[hB];show s.wr+(c:Int)+((12:Nat):Int)=s.wr+(c+12);omega
theorem OE (hd : s.dd = false) (hk : 0 < s.k) (hl : s.l = P ++ (X ++ Q)) (hP : P.length = a * s.k) (hX : X.length = c * s.k) (kr : 12 < c * s.k) (h0 : 0 < s.ar) (h : s.ar ≤ (c : Int) + 12) :
    ∃(Y:List UInt8)(w:Int),s.format a c g=(6,⟨P++(Y++Q),s.k,0,s.pt,true,w⟩)∧Y.length=X.length∧(Y=X∨Y.head? =some 255∨Y[12]? =some 255):=by
 have hB:=jD g
 by_cases hc:s.ar≤(c:Int)
 ·obtain⟨Y,w,h1,h2,h3⟩:=OB hd hk hl hP hX h0 hc
  refine⟨Y,w,?_,h2,h3.imp id .inl⟩
  unfold U.format
  rw[h1,if_neg (by simp)]
 ·have e1:=yn c X Q hd hk hl hP hX (by omega)
  rw[if_pos h0] at e1
  have e2:=sP (s:=⟨P++(List.replicate (c*s.k) 255++Q),s.k,s.ar - c,s.pt,false,s.wr+c⟩) (A:=(a:Int)*(s.k:Int)) (m:=cY g) (p:=P) (q:=List.replicate (cY g).length 255) (r:=List.replicate (c*s.k - 12) 255++Q) rfl (by rw[hP,Int.natCast_mul]) (by simp) (by show P++(List.replicate (c*s.k) 255++Q)=_;rw[hB,mD (Nat.le_of_lt kr)]) (by show 0<s.ar - (c:Int);omega) (by rw[hB];show s.ar - (c:Int)≤((12:Nat):Int);omega)
  rw[hB] at e2
  generalize hn:(s.ar - (c:Int)).toNat - 1=n at e2
  have U9:n<12:=by omega
  refine⟨List.zipWith (· &&& ·) ((List.replicate 12 255).take n) ((cY g).take n)++((List.replicate 12 255).drop n++List.replicate (c*s.k - 12) 255),s.wr+c+(s.ar - c - 1),?_,?_,.inr (.inr ?_)⟩
  ·unfold U.format
   rw[e1,if_pos rfl]
   refine e2.trans (Prod.ext rfl (U.ext ?_ rfl rfl rfl rfl rfl))
   simp only[List.append_assoc]
  ·simp only[List.length_append,List.length_zipWith,List.length_take,List.length_drop,List.length_replicate,hB];omega
  ·rw[←List.append_assoc,List.getElem?_append_right (by simp only[List.length_append,List.length_zipWith,List.length_take,List.length_drop,List.length_replicate,hB];omega)]
   simp only[List.length_append,List.length_zipWith,List.length_take,List.length_drop,List.length_replicate,hB]
   rw[List.getElem?_replicate,if_pos (by omega)]
theorem OF(g:Int)(hg:0≤g∧g≤4294967295)(r:List UInt8):dG (((cY g++r).drop 4).take 4)=g.toNat:=by
 have e:((cY g++r).drop 4).take 4=bz 4 g:=by
  unfold cY lN
  simp only[List.cons_append,List.nil_append,List.append_assoc,List.drop_succ_cons,List.drop_zero]
  exact List.take_left' (ec 4 g)
 have e2:g=((g.toNat:Nat):Int):=by omega
 rw[e,e2,vH]
 exact Nat.mod_eq_of_lt (by omega)
def dp(g:Int):List UInt8:=cY g++[254,255,255,255]
theorem qT(g:Int):(dp g).length=16:=by simp[dp,jD]
theorem vJ(hd:s.dd=false)(hl:s.l=P++(dp g++Q))(hP:P.length=a*s.k)(hg:0≤g∧g≤4294967295):s.head a=(g,true,0):=by
 have e:(s.l.drop (a*s.k)).take 16=dp g:=by
  rw[hl,←hP,List.drop_left]
  exact List.take_left' (qT g)
 have Fv:(dp g).take 12=cY g:=List.take_left' (jD g)
 have en:dG (((dp g).drop 4).take 4)=g.toNat:=OF g hg _
 have eg:(dp g).getD 12 0=254:=by
  unfold dp
  rw[List.getD_eq_getElem?_getD,List.getElem?_append_right (by rw[jD];exact Nat.le_refl _),jD];rfl
 have e2:((g.toNat:Nat):Int)=g:=by omega
 unfold U.head
 rw[hd,e,Fv,en,e2,eg,if_neg (by simp),if_pos rfl]
 rfl
theorem CC(hd:s.dd=false)(hl:s.l=P++(X++Q))(hP:P.length=a*s.k)(hX:16≤X.length)(h:X.head? =some 255∨X[12]? =some 255):(s.head a).2.1=false∧(s.head a).2.2=0:=by
 have e:(s.l.drop (a*s.k)).take 16=X.take 16:=by
  rw[hl,←hP,List.drop_left,List.take_append_of_le_length hX]
 unfold U.head
 rw[hd,e,if_neg (by simp)]
 rcases h with h | h
 ·rw[if_neg]
  ·exact⟨rfl,rfl⟩
  ·intro q
   have:=congrArg List.head? q
   cases X with
   | nil=>cases h
   | cons b X=>
    rw[List.head?_cons] at h
    obtain rfl:=Option.some.inj h
    rw[List.take_succ_cons,List.take_succ_cons,List.head?_cons] at this
    exact absurd (Option.some.inj this) (by show¬((255:UInt8)=76);decide)
 ·split
  ·refine⟨?_,rfl⟩
   show decide ((((X.take 16).getD 12 0).toNat:Int)=254)=false
   rw[List.getD_eq_getElem?_getD,List.getElem?_take_of_lt (by decide),h]
   rfl
  ·exact⟨rfl,rfl⟩
end
end Go.Proofs.YtpbpiehcchannaaGreatDoor
