/- What records make of a bank's bytes: the plain law of scan. What writes make of a flash's bytes: the plain law of programs and erasures. What the bank's calls make of its records: the plain law. What Kill, Arm, On and the erasures make of a bank's records: the plain law. What Format, Ready and Head make of a bank; the bank that a law begins with: the plain law. Conditions: the premises of each law. -/
import Derived.Test.YtpbpiehcchannaaGreatDoorJGl
namespace Go.Proofs.YtpbpiehcchannaaGreatDoor
set_option linter.unusedVariables false
set_option linter.unusedSimpArgs false
theorem vB(m:Nat):∀n:Nat,cm (cd n (m:Int))=m%256^n
 | 0=>by simp[cd,cm,Nat.mod_one]
 | n+1=>by
  rw[zb,zc,vB m n,gO,Nat.mod_pow_succ]
  have e:((8*(n:Int)).toNat)=8*n:=by omega
  have h:((m:Int)/2^(8*(n:Int)).toNat%256).toNat=m/256^n%256:=by
   rw[e,show(2:Int)^(8*n)=((256^n:Nat):Int) by rw[show(256:Nat)=2^8 by rfl,←Nat.pow_mul];simp]
   omega
  rw[h]
  have h2:(UInt8.ofNat (m/256^n%256)).toNat=m/256^n%256:=by
   rw[UInt8.toNat_ofNat'];omega
  rw[h2];omega
def dZ(c:Rc):List UInt8:=(if c.lv then 252 else 248)::bA c.key c.val
def bP(c:Rc):Nat:=12+c.key.length+c.val.length
structure qW(c:Rc):Prop where
 k:1≤c.key.length∧c.key.length≤255
 v:c.val.length≤65536
theorem mQ(c:Rc):(dZ c).length=bP c:=by
 simp only[dZ,List.length_cons,pw,bP];omega
theorem vC(c:Rc):dZ c=(if c.lv then 252 else 248)::165::(cd 2 c.key.length++(cd 4 c.val.length++(cd 4 (iD c.key c.val)++(c.key++c.val)))):=by
 simp[dZ,bA,kE,gA]
theorem KZ(c:Rc)(h:qW c)(y:List UInt8):dU (dZ c++y)∧bU (dZ c++y)=bP c∧bR (dZ c++y)=c.key∧b5 (dZ c++y)=c.val∧jc (dZ c++y)=c.lv:=by
 have hk:=h.k
 have hv:=h.v
 have l2:=gO 2 c.key.length
 have l4:=gO 4 c.val.length
 have P7:=gO 4 (iD c.key c.val)
 have hK:au (dZ c++y)=c.key.length:=by
  unfold au
  rw[vC]
  simp only[List.cons_append,List.drop_succ_cons,List.drop_zero,List.append_assoc]
  rw[List.take_append_of_le_length (by omega),List.take_of_length_le (by omega),vB]
  exact Nat.mod_eq_of_lt (by omega)
 have hV:cA (dZ c++y)=c.val.length:=by
  unfold cA
  rw[vC]
  simp only[List.cons_append,List.drop_succ_cons,List.append_assoc]
  rw[List.drop_append_of_le_length (by omega),show(cd 2 (c.key.length:Int)).drop 2=[] from List.drop_of_length_le (by omega),List.nil_append,List.take_append_of_le_length (by omega),List.take_of_length_le (by omega),vB]
  exact Nat.mod_eq_of_lt (by omega)
 have hN:bU (dZ c++y)=bP c:=by unfold bU bP;rw[hK,hV]
 have hlen:=mQ c
 have Eg:(dZ c++y).take (bP c)=dZ c:=by rw[List.take_append_of_le_length (by omega),List.take_of_length_le (by omega)]
 have kF:bR (dZ c++y)=c.key:=by
  unfold bR
  rw[hK,vC]
  simp only[List.cons_append,List.append_assoc]
  rw[show 12+c.key.length=10+c.key.length+1+1 by omega,List.take_succ_cons,List.take_succ_cons,show 12=10+1+1 by rfl,List.drop_succ_cons,List.drop_succ_cons]
  rw[←List.append_assoc (cd 2 _),←List.append_assoc (cd 2 _++_)]
  have hd:(cd 2 (c.key.length:Int)++cd 4 (c.val.length:Int)++cd 4 (iD c.key c.val)).length=10:=by simp only[List.length_append];omega
  rw[←hd,List.take_append,List.take_of_length_le (by omega),show(cd 2 (c.key.length:Int)++cd 4 (c.val.length:Int)++cd 4 (iD c.key c.val)).length+c.key.length - (cd 2 (c.key.length:Int)++cd 4 (c.val.length:Int)++cd 4 (iD c.key c.val)).length=c.key.length by omega,List.drop_left,List.take_left]
 have jb:b5 (dZ c++y)=c.val:=by
  unfold b5
  rw[hN,Eg,hK,vC]
  rw[show 12+c.key.length=10+c.key.length+1+1 by omega,List.drop_succ_cons,List.drop_succ_cons]
  rw[←List.append_assoc,←List.append_assoc,←List.append_assoc]
  exact List.drop_left' (by simp only[List.length_append];omega)
 have h0:(dZ c++y).getD 0 0=if c.lv then 252 else 248:=rfl
 refine⟨⟨by rw[List.length_append,hlen];unfold bP;omega,?_,by omega,by omega,by omega,by rw[hN,List.length_append];omega,?_⟩,hN,kF,jb,?_⟩
 ·rw[h0];cases c.lv<;>simp
 ·rw[hN,Eg,kF,jb];rfl
 ·unfold jc;rw[h0];cases c.lv<;>rfl
def a8(l:List Rc):List UInt8:=l.flatMap dZ
def jh:Nat→List Rc→Prop
 | _,[]=>True
 | a,c::l=>c.at_=a∧qW c∧jh (a+bP c) l
theorem pB(c:Rc)(l:List Rc):a8 (c::l)=dZ c++a8 l:=rfl
theorem qX(l m:List Rc):a8 (l++m)=a8 l++a8 m:=by simp[a8]
theorem Eh(c:Rc):∀(l:List Rc)(a:Nat),jh a (l++[c])↔jh a l∧c.at_=a+(a8 l).length∧qW c
 | [],a=>by simp[jh,a8]
 | d::l,a=>by
  simp only[List.cons_append,jh,Eh c l,pB,List.length_append,mQ,Nat.add_assoc,and_assoc]
theorem Ei(x y:List UInt8)(hy:∀b,y.head? =some b→b=255∨b=254):∀(l:List Rc)(a:Nat),a≤x.length→x.drop a=a8 l++y→jh a l→bj x a=(l,a+(a8 l).length,decide (y.head? ≠some 254))
 | [],a,ha,hx,_=>by
  have h0:x.drop a=y:=hx
  have h1:x[a]? =y.head?:=by rw[←h0,List.head?_drop]
  have ai:a<x.length↔y≠[]:=by
   rw[←h0];simp
  cases y with
  | nil=>
   rw[nT (fun q=>(ai.1 q.1) rfl)]
   simp[a8]
  | cons b y=>
   have iZ:=ai.2 (by simp)
   have h2:x.getD a 0=b:=by rw[List.getD_eq_getElem?_getD,h1];rfl
   rcases hy b rfl with rfl | rfl
   ·rw[nT (fun q=>q.2 h2)]
    simp[a8]
   ·rw[po ⟨iZ,by rw[h2];decide⟩]
    ·simp[a8]
    ·intro hr
     have:=hr.2.1
     rw[h0] at this
     simp at this
 | c::l,a,ha,hx,hp=>by
  obtain⟨h1,h2,h3⟩:=hp
  rw[pB,List.append_assoc] at hx
  obtain⟨d1,d2,d3,d4,d5⟩:=KZ c h2 (a8 l++y)
  rw[←hx] at d1 d2 d3 d4 d5
  have hl:bP c+(a8 l++y).length=x.length - a:=by
   have:=congrArg List.length hx
   rw[List.length_drop,List.length_append,mQ] at this
   omega
  have iZ:a<x.length:=by
   have:12≤bP c:=by unfold bP;omega
   omega
  have aF:x.getD a 0≠255:=by
   have h5:x[a]? =(dZ c++(a8 l++y)).head?:=by rw[←hx,List.head?_drop]
   rw[List.getD_eq_getElem?_getD,h5]
   show(if c.lv then(252:UInt8) else 248)≠255
   cases c.lv<;>decide
  have eU:x.drop (a+bP c)=a8 l++y:=by
   rw[←List.drop_drop,hx,←mQ c]
   exact List.drop_left
  have ih:=Ei x y hy l (a+bP c) (by omega) eU h3
  rw[pj ⟨iZ,aF⟩ d1,d2,ih,d3,d4,d5,←h1]
  simp only[pB,List.length_append,mQ,Nat.add_assoc]
end Go.Proofs.YtpbpiehcchannaaGreatDoor
namespace Go.Proofs.YtpbpiehcchannaaGreatDoor
set_option linter.unusedVariables false
set_option linter.unusedSimpArgs false
def qY:List UInt8→Nat→List UInt8→List UInt8
 | [],_,c=>c
 | b::m,k,c=>qY m (k+1) (c.set k (c.getD k 0&&&b))
theorem Ej:∀(m q p r:List UInt8),q.length=m.length→qY m p.length (p++(q++r))=p++(List.zipWith (· &&& ·) q m++r)
 | [],q,p,r,h=>by
  obtain rfl:=List.eq_nil_of_length_eq_zero (show q.length=0 from h)
  rfl
 | b::m,[],p,r,h=>by simp at h
 | b::m,d::q,p,r,h=>by
  have h':q.length=m.length:=by simpa using h
  have e1:(p++(d::q++r)).getD p.length 0=d:=by
   rw[List.getD_eq_getElem?_getD,List.getElem?_append_right (Nat.le_refl _)];simp
  have e2:(p++(d::q++r)).set p.length (d&&&b)=(p++[d&&&b])++(q++r):=by
   rw[List.set_append_right _ _ (Nat.le_refl _)];simp
  rw[qY,e1,e2]
  have ih:=Ej m q (p++[d&&&b]) r h'
  rw[List.length_append,List.length_singleton] at ih
  rw[ih]
  simp
theorem Ek(b:UInt8):255&&&b=b:=by
 have:(255:UInt8)= -1:=rfl
 rw[this];exact UInt8.neg_one_and
theorem zA:∀(m:List UInt8),List.zipWith (· &&& ·) (List.replicate m.length 255) m=m
 | []=>rfl
 | b::m=>by
  show((255:UInt8)&&&b)::List.zipWith (· &&& ·) (List.replicate m.length 255) m=b::m
  rw[zA m,Ek]
theorem Em:∀(m:List UInt8)(k:Nat)(c:List UInt8)(left w:Int),(left≤0∨(m.length:Int)<left)→dw m k c left w=(0,qY m k c,if 0<left then left - m.length else left,false,w+m.length)
 | [],k,c,left,w,h=>by
  simp only[dw,qY,List.length_nil]
  refine Prod.ext rfl (Prod.ext rfl (Prod.ext ?_ (Prod.ext rfl ?_)))
  ·show left=if 0<left then left - ((0:Nat):Int) else left
   split<;>simp
  ·show w=w+((0:Nat):Int)
   simp
 | b::m,k,c,left,w,h=>by
  simp only[List.length_cons] at h⊢
  have h1:¬(0<left∧left - 1=0):=by omega
  rw[dw,if_neg h1,Em m (k+1) _ _ (w+1) (by split<;>omega),qY]
  refine Prod.ext rfl (Prod.ext rfl (Prod.ext ?_ (Prod.ext rfl ?_)))
  ·by_cases h2:0<left
   ·rw[if_pos h2,if_pos (by show 0<left - 1;omega),if_pos h2];show left - 1 - (m.length:Int)=left - ((m.length+1:Nat):Int);omega
   ·simp only[if_neg h2]
  ·show w+1+(m.length:Int)=w+((m.length+1:Nat):Int);omega
theorem qZ {s : J} {A : Int} {m p q r : List UInt8} (hd : s.dd = false) (hA : A = p.length) (hq : q.length = m.length) (hl : s.l = p ++ (q ++ r)) (h : s.ar ≤ 0 ∨ (m.length : Int) < s.ar) :
    s.prog A m=(0,⟨p++(List.zipWith (· &&& ·) q m++r),s.k,if 0<s.ar then s.ar - m.length else s.ar,s.pt,false,s.wr+m.length⟩):=by
 have hlen:s.l.length=p.length+(q.length+r.length):=by rw[hl];simp
 unfold J.prog
 rw[hd,if_neg (by simp),if_pos (by omega),hA,Int.toNat_natCast,Em m p.length s.l s.ar s.wr h,hl,Ej m q p r hq]
theorem zB:∀(n:Nat)(p q r:List UInt8),q.length=n→fp (p++(q++r)) p.length n=p++(List.replicate n 255++r)
 | 0,p,q,r,h=>by
  obtain rfl:=List.eq_nil_of_length_eq_zero h
  rfl
 | n+1,p,q,r,h=>by
  have aF:q≠[]:=by intro e;simp[e] at h
  have hq:q=q.dropLast++[q.getLast aF]:=(List.dropLast_concat_getLast aF).symm
  have hd:q.dropLast.length=n:=by simp;omega
  have ih:=zB n p q.dropLast (q.getLast aF::r) hd
  have e:p++(q++r)=p++(q.dropLast++(q.getLast aF::r)):=by
   conv=>lhs;rw[hq]
   simp
  rw[fp,e,ih,←List.append_assoc,List.set_append_right _ _ (by simp),List.length_append,List.length_replicate,Nat.sub_self]
  simp[List.replicate_succ']
end Go.Proofs.YtpbpiehcchannaaGreatDoor
namespace Go.Proofs.YtpbpiehcchannaaGreatDoor
set_option linter.unusedVariables false
set_option linter.unusedSimpArgs false
theorem J.ext{s t:J}(h1:s.l=t.l)(h2:s.k=t.k)(h3:s.ar=t.ar)(h4:s.pt=t.pt)(h5:s.dd=t.dd)(h6:s.wr=t.wr):s=t:=by
 cases s;cases t;simp_all
theorem vD{m n:Nat}(h:n≤m)(b:UInt8)(r:List UInt8):List.replicate m b++r=List.replicate n b++(List.replicate (m - n) b++r):=by
 rw[←List.append_assoc,List.replicate_append_replicate,Nat.add_sub_cancel' h]
theorem K1 {s : J} {A : Int} {d : Rc} {p r : List UInt8} {m : Nat} (hd : s.dd = false) (hA : A = p.length) (hl : s.l = p ++ (List.replicate m 255 ++ r)) (hm : bP d ≤ m) (hc : d.lv = true) (h : s.ar ≤ 0 ∨ (bP d + 1 : Int) < s.ar) :
    s.iE A d.key d.val=(0,⟨p++(dZ d++(List.replicate (m - bP d) 255++r)),s.k,if 0<s.ar then s.ar - (bP d+1) else s.ar,s.pt,false,s.wr+(bP d+1)⟩):=by
 have hL:(bA d.key d.val).length+1=bP d:=by rw[pw];unfold bP;omega
 have P8:((bA d.key d.val).length:Int)+1=bP d:=by omega
 have e1:s.prog A [254]=(0,⟨p++([254]++(List.replicate (m - 1) 255++r)),s.k,if 0<s.ar then s.ar - 1 else s.ar,s.pt,false,s.wr+1⟩):=
  qZ (m:=[254]) (p:=p) (q:=[255]) (r:=List.replicate (m - 1) 255++r) hd hA rfl (by rw[hl,vD (by omega:1≤m)];rfl) (by simp only[List.length_singleton];omega)
 have e2:J.prog ⟨p++([254]++(List.replicate (m - 1) 255++r)),s.k,if 0<s.ar then s.ar - 1 else s.ar,s.pt,false,s.wr+1⟩ (A+1) (bA d.key d.val)=(0,⟨p++([254]++(bA d.key d.val++(List.replicate (m - bP d) 255++r))),s.k,if 0<s.ar then s.ar - bP d else s.ar,s.pt,false,s.wr+bP d⟩):=by
  rw[qZ (m:=bA d.key d.val) (p:=p++[254]) (q:=List.replicate (bA d.key d.val).length 255) (r:=List.replicate (m - bP d) 255++r) rfl (by rw[hA];simp) (by simp) (by
   show p++([254]++(List.replicate (m - 1) 255++r))=_
   rw[vD (by omega:(bA d.key d.val).length≤m - 1),show m - 1 - (bA d.key d.val).length=m - bP d by omega]
   simp) (by show(if 0<s.ar then s.ar - 1 else s.ar)≤0∨((bA d.key d.val).length:Int)< (if 0<s.ar then s.ar - 1 else s.ar);split<;>omega),zA,List.append_assoc]
  refine Prod.ext rfl (J.ext rfl rfl ?_ rfl rfl ?_)
  ·show(if 0< (if 0<s.ar then s.ar - 1 else s.ar) then(if 0<s.ar then s.ar - 1 else s.ar) - ((bA d.key d.val).length:Int) else(if 0<s.ar then s.ar - 1 else s.ar))=_
   by_cases h0:0<s.ar
   ·simp only[if_pos h0];rw[if_pos (by omega)];omega
   ·simp only[if_neg h0]
  ·show s.wr+1+((bA d.key d.val).length:Int)=s.wr+bP d;omega
 have e3:J.prog ⟨p++([254]++(bA d.key d.val++(List.replicate (m - bP d) 255++r))),s.k,if 0<s.ar then s.ar - bP d else s.ar,s.pt,false,s.wr+bP d⟩ A [252]=(0,⟨p++(dZ d++(List.replicate (m - bP d) 255++r)),s.k,if 0<s.ar then s.ar - (bP d+1) else s.ar,s.pt,false,s.wr+(bP d+1)⟩):=by
  rw[qZ (m:=[252]) (p:=p) (q:=[254]) (r:=bA d.key d.val++(List.replicate (m - bP d) 255++r)) rfl hA rfl rfl (by show(if 0<s.ar then s.ar - bP d else s.ar)≤0∨(([252]:List UInt8).length:Int)< (if 0<s.ar then s.ar - bP d else s.ar);simp only[List.length_singleton];split<;>omega)]
  refine Prod.ext rfl (J.ext ?_ rfl ?_ rfl rfl ?_)
  ·show p++([252]++(bA d.key d.val++(List.replicate (m - bP d) 255++r)))=_
   simp[dZ,hc]
  ·show(if 0< (if 0<s.ar then s.ar - (bP d:Int) else s.ar) then(if 0<s.ar then s.ar - (bP d:Int) else s.ar) - ((([252]:List UInt8).length:Nat):Int) else(if 0<s.ar then s.ar - (bP d:Int) else s.ar))=_
   simp only[List.length_singleton]
   by_cases h0:0<s.ar
   ·simp only[if_pos h0];rw[if_pos (by omega)];omega
   ·simp only[if_neg h0]
  ·show s.wr+(bP d:Int)+(([252]:List UInt8).length:Int)=s.wr+(bP d+1);simp only[List.length_singleton];omega
 unfold J.iE
 rw[e1]
 rw[if_neg (by simp)]
 rw[e2]
 rw[if_neg (by simp)]
 exact e3
structure BI(s:J)(a c:Nat)(P H:List UInt8)(l:List Rc)(m:Nat)(Q:List UInt8):Prop where
 pC:s.l=P++(H++(a8 l++(List.replicate m 255++Q)))
 P:P.length=a*s.k
 H:H.length=16
 n:16+(a8 l).length+m=c*s.k
 pl:jh 16 l
 dd:s.dd=false
theorem K2{s:J}{a c:Nat}{P X Q:List UInt8}(hl:s.l=P++(X++Q))(hP:P.length=a*s.k)(hX:X.length=c*s.k):s.bE a c=X:=by
 unfold J.bE
 rw[hl,←hP,List.drop_left,←hX,List.take_left]
theorem K3 {s : J} {a c : Nat} {P H y Q : List UInt8} {l : List Rc} (hl : s.l = P ++ (H ++ (a8 l ++ (y ++ Q)))) (hP : P.length = a * s.k) (hH : H.length = 16) (hn : 16 + (a8 l).length + y.length = c * s.k) (hp : jh 16 l)
    (hy:∀b,y.head? =some b→b=255∨b=254):s.scan a c=(l,16+(a8 l).length,decide (y.head? ≠some 254)):=by
 have hb:s.bE a c=H++(a8 l++y):=K2 (P:=P) (Q:=Q) (by rw[hl];simp) hP (by simp only[List.length_append];omega)
 unfold J.scan
 rw[hb]
 exact Ei (H++(a8 l++y)) y hy l 16 (by simp only[List.length_append];omega) (by rw[←hH,List.drop_left]) hp
theorem En{m:Nat}{b:UInt8}(h:(List.replicate m (255:UInt8)).head? =some b):b=255:=by
 cases m with
 | zero=>simp at h
 | succ m=>rw[List.replicate_succ] at h;exact(Option.some.inj h).symm
theorem K4(m:Nat):decide ((List.replicate m (255:UInt8)).head? ≠some 254)=true:=by
 rw[decide_eq_true_iff]
 intro h
 exact absurd (En h) (by decide)
section
variable {s:J} {a c:Nat} {P H:List UInt8} {l:List Rc} {m:Nat} {Q:List UInt8}
theorem BI.scan(h:BI s a c P H l m Q):s.scan a c=(l,16+(a8 l).length,true):=by
 rw[K3 h.pC h.P h.H (by rw[List.length_replicate];exact h.n) h.pl (fun b hb=> .inl (En hb)),K4]
theorem add_eq{s:J}{a c:Nat}{d:Rc}(ho:qW d)(hd:s.dd=false){l:List Rc}{e:Nat}(hs:s.scan a c=(l,e,true))(he:bP d+e≤c*s.k):s.add a c d.key d.val=s.iE ((a:Int)*s.k+(e:Int)) d.key d.val:=by
 have hk:=ho.k
 have hv:=ho.v
 have hle:((bP d+e:Nat):Int)≤((c*s.k:Nat):Int):=by exact_mod_cast he
 unfold bP at hle
 rw[Int.natCast_mul] at hle
 unfold J.add
 rw[if_neg (by omega),hd,if_neg (by simp),hs,if_neg (by simp),if_neg (by simp only;omega)]
theorem BI.Eo (h : BI s a c P H l m Q) {d : Rc} (ho : qW d) (hl : d.lv = true) (cS : d.at_ = 16 + (a8 l).length) (hm : bP d ≤ m) (ji : s.ar ≤ 0 ∨ (bP d + 1 : Int) < s.ar) :
    ∃s',s.add a c d.key d.val=(0,s')∧BI s' a c P H (l++[d]) (m - bP d) Q∧s'.k=s.k∧s'.ar=if 0<s.ar then s.ar - (bP d+1) else s.ar:=by
 have hn:=h.n
 have hH:=h.H
 have hP:=h.P
 have e:=K1 (s:=s) (A:=(a:Int)*s.k+((16+(a8 l).length:Nat):Int)) (d:=d) (p:=P++(H++a8 l)) (r:=Q) (m:=m) h.dd (by
  simp only[List.length_append,hH,hP,Int.natCast_add,Int.natCast_mul]) (by rw[h.pC];simp) hm hl ji
 rw[add_eq ho h.dd h.scan (by omega),e]
 refine⟨_,rfl,⟨?_,hP,hH,?_,(Eh d l 16).2 ⟨h.pl,cS,ho⟩,rfl⟩,rfl,rfl⟩
 ·simp[qX,a8]
 ·rw[qX,List.length_append]
  simp only[a8,List.flatMap_cons,List.flatMap_nil,List.append_nil,mQ]
  show 16+((List.flatMap dZ l).length+bP d)+(m - bP d)=c*s.k
  have:(List.flatMap dZ l).length=(a8 l).length:=rfl
  omega
end
end Go.Proofs.YtpbpiehcchannaaGreatDoor
namespace Go.Proofs.YtpbpiehcchannaaGreatDoor
set_option linter.unusedVariables false
set_option linter.unusedSimpArgs false
theorem zC:∀(l l2:List Rc)(a:Nat),jh a (l++l2)↔jh a l∧jh (a+(a8 l).length) l2
 | [],l2,a=>by simp[jh,a8]
 | d::l,l2,a=>by
  simp only[List.cons_append,jh,zC l l2,pB,List.length_append,mQ,Nat.add_assoc,and_assoc]
def Rc.die(d:Rc):Rc:=⟨d.key,d.val,false,d.at_⟩
theorem Ep{l1 l2:List Rc}{d:Rc}{a:Nat}(h:jh a (l1++d::l2)):d.at_=a+(a8 l1).length∧qW d∧jh a (l1++d.die::l2):=by
 rw[zC] at h
 obtain⟨h1,h2,h3,h4⟩:=h
 exact⟨h2,h3,(zC _ _ _).2 ⟨h1,h2,⟨h3.k,h3.v⟩,h4⟩⟩
section
variable {s:J} {a c:Nat} {P H:List UInt8} {l l1 l2:List Rc} {d:Rc} {m:Nat} {Q:List UInt8}
theorem BI.K5(h:BI s a c P H (l1++d::l2) m Q):s.kill a c (l1.length:Int)=s.prog ((P++(H++a8 l1)).length:Int) [248]:=by
 obtain⟨h1,h2,h3⟩:=Ep h.pl
 unfold J.kill
 rw[h.dd,if_neg (by simp),h.scan,if_neg (by simp only[List.length_append,List.length_cons];omega)]
 have e:((l1++d::l2).map fun r=>(r.at_:Int)).getD (l1.length:Int).toNat 0=d.at_:=by
  rw[Int.toNat_natCast,List.getD_eq_getElem?_getD,List.map_append,List.getElem?_append_right (by simp)]
  simp
 have e2:((a:Int)*s.k+(d.at_:Int))=((P++(H++a8 l1)).length:Int):=by
  rw[h1]
  simp only[List.length_append,h.P,h.H,Int.natCast_add,Int.natCast_mul]
 simp only[e,e2]
theorem BI.K6(h:BI s a c P H (l1++d::l2) m Q):s.l=(P++(H++a8 l1))++([if d.lv then 252 else 248]++(bA d.key d.val++(a8 l2++(List.replicate m 255++Q)))):=by
 rw[h.pC,qX,pB]
 simp[dZ]
theorem K7(l1 l2:List Rc)(d:Rc)(y:List UInt8):(P++(H++a8 l1))++([248]++(bA d.key d.val++(a8 l2++y)))=P++(H++(a8 (l1++d.die::l2)++y)):=by
 rw[qX,pB]
 simp[dZ,Rc.die]
theorem K8(l1 l2:List Rc)(d:Rc):(a8 (l1++d.die::l2)).length=(a8 (l1++d::l2)).length:=by
 simp only[qX,pB,List.length_append,mQ]
 rfl
theorem BI.Er (h : BI s a c P H (l1 ++ d :: l2) m Q) (ji : s.ar ≤ 0 ∨ 1 < s.ar) :
    ∃s',s.kill a c (l1.length:Int)=(0,s')∧BI s' a c P H (l1++d.die::l2) m Q∧s'.k=s.k∧s'.ar=if 0<s.ar then s.ar - 1 else s.ar:=by
 rw[h.K5,qZ (m:=[248]) (p:=P++(H++a8 l1)) (q:=[if d.lv then 252 else 248]) h.dd rfl rfl h.K6 (by simp only[List.length_singleton];omega)]
 have hz:List.zipWith (· &&& ·) [if d.lv then(252:UInt8) else 248] [248]=[248]:=by cases d.lv<;>rfl
 rw[hz,K7]
 refine⟨_,rfl,⟨rfl,h.P,h.H,?_,(Ep h.pl).2.2,rfl⟩,rfl,rfl⟩
 rw[K8];exact h.n
theorem BI.arm(h:BI s a c P H l m Q){x y:Int}(hx:0≤x)(hy:0≤y):∃s',s.arm x y=(0,s')∧BI s' a c P H l m Q∧s'.k=s.k∧s'.ar=x∧s'.pt=y:=by
 unfold J.arm
 rw[h.dd,if_neg (by simp),if_neg (by omega)]
 exact⟨_,rfl,⟨h.pC,h.P,h.H,h.n,h.pl,rfl⟩,rfl,rfl,rfl⟩
theorem BI.on(h:BI s a c P H l m Q):s.on=(12,s):=by
 unfold J.on
 rw[h.dd,if_neg (by simp)]
theorem K9 {x : Nat} {X : List UInt8} (hd : s.dd = false) (hk : 0 < s.k) (hl : s.l = P ++ (X ++ Q)) (hP : P.length = x * s.k) (hX : X.length = s.k) :
    (s.ar≤0∨1<s.ar→s.erase (x:Int)=(0,⟨P++(List.replicate s.k 255++Q),s.k,if 0<s.ar then s.ar - 1 else s.ar,s.pt,false,s.wr+1⟩))∧
    (s.ar=1→s.erase (x:Int)=(6,⟨P++(List.replicate (min s.pt (s.k:Int)).toNat 255++(X.drop (min s.pt (s.k:Int)).toNat++Q)),s.k,0,s.pt,true,s.wr⟩)):=by
 have hlen:s.l.length=x*s.k+(s.k+Q.length):=by rw[hl,List.length_append,List.length_append,hP,hX]
 have bV:0≤(x:Int)∧(x:Int)< (s.l.length:Int)/(s.k:Int):=by
  refine⟨by omega,?_⟩
  rw[←Int.natCast_ediv]
  have:x+1≤s.l.length/s.k:=(Nat.le_div_iff_mul_le hk).2 (by rw[hlen,Nat.add_mul];omega)
  omega
 constructor
 ·intro ha
  have hg:s.goes=false:=by
   unfold J.goes
   split
   ·rw[decide_eq_false_iff_not];omega
   ·rfl
  unfold J.erase
  rw[hd,if_neg (by simp),if_pos bV,hg]
  simp only[Bool.false_eq_true,if_false,Int.toNat_natCast]
  rw[hl,←hP,zB s.k P X Q hX]
 ·intro ha
  have hg:s.goes=true:=by
   unfold J.goes
   rw[ha];rfl
  have hle:(min s.pt (s.k:Int)).toNat≤s.k:=by omega
  have e:X++Q=X.take (min s.pt (s.k:Int)).toNat++(X.drop (min s.pt (s.k:Int)).toNat++Q):=by rw[←List.append_assoc,List.take_append_drop]
  unfold J.erase
  rw[hd,if_neg (by simp),if_pos bV,hg]
  simp only[if_true,Int.toNat_natCast]
  rw[hl,←hP,e,zB _ P (X.take (min s.pt (s.k:Int)).toNat) _ (by rw[List.length_take,hX];omega),ha]
  rfl
theorem Es : ∀ (c : Nat) (X Q : List UInt8), s.dd = false → 0 < s.k → s.l = P ++ (X ++ Q) → P.length = a * s.k → X.length = c * s.k → (s.ar ≤ 0 ∨ (c : Int) < s.ar) →
    s.bC a c=(0,⟨P++(List.replicate (c*s.k) 255++Q),s.k,if 0<s.ar then s.ar - c else s.ar,s.pt,false,s.wr+c⟩)
 | 0,X,Q,hd,hk,hl,hP,hX,h=>by
  obtain rfl:=List.eq_nil_of_length_eq_zero (by rw[hX];simp:X.length=0)
  refine Prod.ext rfl (J.ext ?_ rfl ?_ rfl hd ?_)
  ·show s.l=P++(List.replicate (0*s.k) 255++Q)
   rw[hl,Nat.zero_mul];rfl
  ·show s.ar=if 0<s.ar then s.ar - ((0:Nat):Int) else s.ar
   split<;>simp
  ·show s.wr=s.wr+((0:Nat):Int);simp
 | c+1,X,Q,hd,hk,hl,hP,hX,h=>by
  have Et:X.length=c*s.k+s.k:=by rw[hX,Nat.add_mul];omega
  have e:X++Q=X.take (c*s.k)++(X.drop (c*s.k)++Q):=by rw[←List.append_assoc,List.take_append_drop]
  have ih:=Es c (X.take (c*s.k)) (X.drop (c*s.k)++Q) hd hk (by rw[hl,e]) hP (by rw[List.length_take];omega) (by omega)
  unfold J.bC
  rw[ih]
  simp only[if_true]
  have he:=(K9 (s:=⟨P++(List.replicate (c*s.k) 255++(X.drop (c*s.k)++Q)),s.k,if 0<s.ar then s.ar - c else s.ar,s.pt,false,s.wr+c⟩) (x:=a+c) (P:=P++List.replicate (c*s.k) 255) (X:=X.drop (c*s.k)) (Q:=Q) rfl hk (by simp) (by simp[hP,Nat.add_mul]) (by rw[List.length_drop];show X.length - c*s.k=s.k;omega)).1 (by show(if 0<s.ar then s.ar - (c:Int) else s.ar)≤0∨1< (if 0<s.ar then s.ar - (c:Int) else s.ar);split<;>omega)
  rw[show((a:Int)+(c:Int))=((a+c:Nat):Int) by omega,he]
  refine Prod.ext rfl (J.ext ?_ rfl ?_ rfl rfl ?_)
  ·show P++List.replicate (c*s.k) 255++(List.replicate s.k 255++Q)=P++(List.replicate ((c+1)*s.k) 255++Q)
   rw[List.append_assoc,←List.append_assoc (List.replicate _ _),List.replicate_append_replicate,Nat.add_mul,Nat.one_mul]
  ·show(if 0< (if 0<s.ar then s.ar - (c:Int) else s.ar) then(if 0<s.ar then s.ar - (c:Int) else s.ar) - 1 else(if 0<s.ar then s.ar - (c:Int) else s.ar))=if 0<s.ar then s.ar - ((c+1:Nat):Int) else s.ar
   by_cases h0:0<s.ar
   ·simp only[if_pos h0];rw[if_pos (by omega)];omega
   ·simp only[if_neg h0]
  ·show s.wr+(c:Int)+1=s.wr+((c+1:Nat):Int);omega
end
end Go.Proofs.YtpbpiehcchannaaGreatDoor
namespace Go.Proofs.YtpbpiehcchannaaGreatDoor
set_option linter.unusedVariables false
set_option linter.unusedSimpArgs false
section
variable {s:J} {a c:Nat} {P X:List UInt8} {m:Nat} {Q:List UInt8} {g:Int}
theorem La (hd : s.dd = false) (hk : 0 < s.k) (hl : s.l = P ++ (X ++ Q)) (hP : P.length = a * s.k) (hX : X.length = c * s.k) (iO : 12 ≤ c * s.k) (h : s.ar ≤ 0 ∨ (c : Int) + 12 < s.ar) :
    s.format a c g=(0,⟨P++(dE g++(List.replicate (c*s.k - 12) 255++Q)),s.k,if 0<s.ar then s.ar - (c+12) else s.ar,s.pt,false,s.wr+(c+12)⟩):=by
 have hB:=j7 g
 unfold J.format
 rw[Es c X Q hd hk hl hP hX (by omega),if_pos rfl]
 rw[qZ (m:=dE g) (p:=P) (q:=List.replicate (dE g).length 255) (r:=List.replicate (c*s.k - 12) 255++Q) rfl (by show(a:Int)*(s.k:Int)=_;rw[hP,Int.natCast_mul]) (by simp) (by show P++(List.replicate (c*s.k) 255++Q)=_;rw[hB,vD iO]) (by rw[hB];show(if 0<s.ar then s.ar - (c:Int) else s.ar)≤0∨((12:Nat):Int)< (if 0<s.ar then s.ar - (c:Int) else s.ar);split<;>omega),zA]
 refine Prod.ext rfl (J.ext rfl rfl ?_ rfl rfl ?_)
 ·rw[hB]
  show(if 0< (if 0<s.ar then s.ar - (c:Int) else s.ar) then(if 0<s.ar then s.ar - (c:Int) else s.ar) - ((12:Nat):Int) else(if 0<s.ar then s.ar - (c:Int) else s.ar))=_
  by_cases h0:0<s.ar
  ·simp only[if_pos h0];rw[if_pos (by omega)];omega
  ·simp only[if_neg h0]
 ·rw[hB];show s.wr+(c:Int)+((12:Nat):Int)=s.wr+(c+12);omega
theorem Lb(g:Int)(hg:0≤g∧g≤4294967295)(r:List UInt8):cm (((dE g++r).drop 4).take 4)=g.toNat:=by
 have e:((dE g++r).drop 4).take 4=cd 4 g:=by
  unfold dE gy
  simp only[List.cons_append,List.nil_append,List.append_assoc,List.drop_succ_cons,List.drop_zero]
  exact List.take_left' (gO 4 g)
 have e2:g=((g.toNat:Nat):Int):=by omega
 rw[e,e2,vB]
 exact Nat.mod_eq_of_lt (by omega)
def fb(g:Int):List UInt8:=dE g++[254,255,255,255]
theorem vE(g:Int):(fb g).length=16:=by simp[fb,j7]
theorem zD(hd:s.dd=false)(hl:s.l=P++(fb g++Q))(hP:P.length=a*s.k)(hg:0≤g∧g≤4294967295):s.head a=(g,true,0):=by
 have e:(s.l.drop (a*s.k)).take 16=fb g:=by
  rw[hl,←hP,List.drop_left]
  exact List.take_left' (vE g)
 have Ct:(fb g).take 12=dE g:=List.take_left' (j7 g)
 have en:cm (((fb g).drop 4).take 4)=g.toNat:=Lb g hg _
 have eg:(fb g).getD 12 0=254:=by
  unfold fb
  rw[List.getD_eq_getElem?_getD,List.getElem?_append_right (by rw[j7];exact Nat.le_refl _),j7];rfl
 have e2:((g.toNat:Nat):Int)=g:=by omega
 unfold J.head
 rw[hd,e,Ct,en,e2,eg,if_neg (by simp),if_pos rfl]
 rfl
theorem zE(hd:s.dd=false)(hl:s.l=P++(X++Q))(hP:P.length=a*s.k)(hX:16≤X.length)(h:X.head? =some 255∨X[12]? =some 255):(s.head a).2.1=false∧(s.head a).2.2=0:=by
 have e:(s.l.drop (a*s.k)).take 16=X.take 16:=by
  rw[hl,←hP,List.drop_left,List.take_append_of_le_length hX]
 unfold J.head
 rw[hd,e,if_neg (by simp)]
 rcases h with h | h
 ·rw[if_neg]
  ·exact⟨rfl,rfl⟩
  ·intro q
   have:=congrArg List.head? q
   cases X with
   | nil=>cases h
   | cons b X=>
    rw[List.head?_cons] at h
    obtain rfl:=Option.some.inj h
    rw[List.take_succ_cons,List.take_succ_cons,List.head?_cons] at this
    exact absurd (Option.some.inj this) (by show¬((255:UInt8)=76);decide)
 ·split
  ·refine⟨?_,rfl⟩
   show decide ((((X.take 16).getD 12 0).toNat:Int)=254)=false
   rw[List.getD_eq_getElem?_getD,List.getElem?_take_of_lt (by decide),h]
   rfl
  ·exact⟨rfl,rfl⟩
end
end Go.Proofs.YtpbpiehcchannaaGreatDoor
