/- Walks of nvram: the records that are the store: slices.DeleteFunc. Walks of nvram: slices.Clone of records, used. Walks of nvram: now. Conditions: the premises of each law. -/
import Derived.Test.YtpbpiehcchannaaGreatDoorJHn
namespace Go.Proofs.YtpbpiehcchannaaGreatDoor
set_option linter.unusedVariables false
set_option linter.unusedSimpArgs false
set_option maxRecDepth 100000
set_option maxHeartbeats 1500000
open Go.RowKit
theorem dt.PJ(v sz:Nat){α β:Type}{f:α→List AV}{d:α}{l:List α}{f':β→List AV}{d':β}{l':List β}(h:l'.map f'=(l.map f).take l'.length):dt ⟨v,.row sz f d l⟩ ⟨v,.row sz f' d' l'⟩:=by
 have hl:l'.length≤l.length:=by have:=congrArg List.length h;simp only[List.length_map,List.length_take] at this;omega
 refine⟨rfl,fun _=>rfl,fun q=> ?_,fun _ E w b h0=>⟨fun _=> ?_,fun _ _ _ q=>by cases q⟩,fun _ q=>by cases q⟩
 ·simp only[Bd.count] at q⊢;omega
 ·obtain⟨cur,T,lo,hi,h1,h2,h3,h4⟩:=h0.aQ rfl
  refine⟨cur,T,lo,hi,h1,h2,?_,fun i ys hy=> ?_⟩
  ·simp only[Bd.count,Bd.sz] at h3⊢
   exact Nat.le_trans (Nat.mul_le_mul_right _ hl) h3
  ·refine h4 i ys ?_
   simp only[Bd.at] at hy⊢
   rw[←List.getElem?_map,h,List.getElem?_take] at hy
   rw[←List.getElem?_map]
   split at hy
   ·exact hy
   ·cases hy
def cN(l:List Rc)(n:Nat):List Rr:=(dA (l.map aj) n).map fun j=>(bX 0 l).getD j ⟨0,0,0,false⟩
def jL(l:List Rc)(j:Nat):List Rr:=cN l j++(bX 0 l).drop (dA (l.map aj) j).length
theorem ox(l:List Rc)(n:Nat):(cN l n).length=(dA (l.map aj) n).length:=by simp[cN]
theorem PK(l:List Rc)(j:Nat)(hj:j≤l.length):(jL l j).length=l.length:=by
 have:=vT (l.map aj) j
 unfold jL
 rw[List.length_append,ox,List.length_drop,di];omega
theorem PL(l:List Rc)(j:Nat)(hj:j<l.length):(jL l j).getD j ⟨0,0,0,false⟩=(bX 0 l).getD j ⟨0,0,0,false⟩:=by
 have:=vT (l.map aj) j
 unfold jL
 rw[List.getD_eq_getElem?_getD,List.getElem?_append_right (by rw[ox];omega),List.getElem?_drop,ox,Nat.add_sub_cancel' this,←List.getD_eq_getElem?_getD]
theorem Ij(l:List Rc)(j:Nat):cN l (j+1)=cN l j++if fj (l.map aj) j then[(bX 0 l).getD j ⟨0,0,0,false⟩] else[]:=by
 unfold cN
 rw[sW,List.map_append]
 congr 1
 split<;>rfl
theorem Ik(l:List Rc)(j:Nat)(h:fj (l.map aj) j=false):jL l (j+1)=jL l j∧(dA (l.map aj) (j+1)).length=(dA (l.map aj) j).length:=by
 have h1:dA (l.map aj) (j+1)=dA (l.map aj) j:=by rw[sW,h];simp
 have h2:cN l (j+1)=cN l j:=by rw[Ij,h];simp
 exact⟨by unfold jL;rw[h1,h2],by rw[h1]⟩
theorem PM(l:List Rc)(j:Nat)(hj:j<l.length)(h:fj (l.map aj) j=true):(jL l j).set (dA (l.map aj) j).length ((bX 0 l).getD j ⟨0,0,0,false⟩)=jL l (j+1)∧(dA (l.map aj) (j+1)).length=(dA (l.map aj) j).length+1:=by
 have h0:=vT (l.map aj) j
 have h1:(dA (l.map aj) (j+1)).length=(dA (l.map aj) j).length+1:=by rw[sW,h];simp
 refine⟨?_,h1⟩
 unfold jL
 rw[h1,Ij,h,if_pos rfl,List.set_append_right _ _ (by rw[ox];exact Nat.le_refl _),ox,Nat.sub_self,List.append_assoc]
 congr 1
 rw[List.drop_eq_getElem_cons (by rw[di];omega),List.set_cons_zero]
 rfl
theorem Il(p:Nat→Bool):∀n:Nat,∃i,i≤n∧(∀j,j<i→p j=true)∧(i<n→p i=false)
 | 0=>⟨0,Nat.le_refl _,fun j h=>absurd h (Nat.not_lt_zero j),fun h=>absurd h (Nat.lt_irrefl 0)⟩
 | n+1=>by
  obtain⟨i,h1,h2,h3⟩:=Il p n
  by_cases h:i<n
  ·exact⟨i,by omega,h2,fun _=>h3 h⟩
  ·obtain rfl:i=n:=by omega
   cases hp:p i with
   | true=>exact⟨i+1,Nat.le_refl _,fun j hj=>by rcases Nat.lt_or_eq_of_le (Nat.le_of_lt_succ hj) with q | q;exact h2 j q;rw[q];exact hp,fun q=>absurd q (Nat.lt_irrefl _)⟩
   | false=>exact⟨i,Nat.le_succ _,h2,fun _=>hp⟩
theorem PN(l:List RK):∀n:Nat,(∀j,j<n→fj l j=true)→dA l n=List.range n:=by
 intro n h
 unfold dA
 rw[List.filter_eq_self]
 intro j hj
 exact h j (List.mem_range.1 hj)
theorem Im(l:List Rc)(j:Nat)(hj:j≤l.length)(h:∀i,i<j→fj (l.map aj) i=true):jL l j=bX 0 l∧(dA (l.map aj) j).length=j:=by
 have h1:=PN _ j h
 have h2:cN l j=(bX 0 l).take j:=by
  unfold cN
  rw[h1]
  apply List.ext_getElem?
  intro q
  rw[List.getElem?_map,List.getElem?_take]
  by_cases hq:q<j
  ·have hl:q< (bX 0 l).length:=by rw[di];omega
   rw[List.getElem?_range hq,if_pos hq,Option.map_some,List.getD_eq_getElem?_getD,List.getElem?_eq_getElem hl];rfl
  ·rw[if_neg hq,List.getElem?_eq_none (by simp;omega)];rfl
 refine⟨?_,by rw[h1,List.length_range]⟩
 unfold jL
 rw[h1,h2,List.length_range,List.take_append_drop]
theorem PO{α:Type}(f:α→List AV)(z:List Value)(A:List α)(R:List (Option α)):A.map f=((A.map some++R).map (Am f z)).take A.length:=by
 rw[List.map_append,List.map_map,List.take_left' (by simp)];rfl
theorem PQ(l:List Rc)(j:Nat):(jL l j).take (dA (l.map aj) j).length=cN l j:=by
 unfold jL
 exact List.take_left' (ox l j)
theorem Io (s : U) (a c : Nat) (l : List Rc) (hb : (∀ r ∈ l.map aj, r.key.length ≤ 140737488355328 ∧ r.val.length ≤ 140737488355328) ∧ (l.map aj).length ≤ 140737488355328) (e : Int) (b : Bool) (vt vx vr vw vb v0 v1 vs : Nat) :
   Spec Tryz.prog 118 [.own 7 vs 3 0 l.length,.clo 120 [.ref 0 vt 1 0 0,.ref 1 vx 5 0 0]] [⟨vt,.obj [.val (.int .i64 0)]⟩,⟨vx,.obj [.ref 4 vb 3 0 0,.own 2 vr 3 0 l.length,.val (.slice none 0 0),.val (.int .i64 e),.val (.bool b)]⟩,⟨vr,.row 3 (b7 3 vw) ⟨0,0,0,false⟩ (bX 0 l)⟩,⟨vw,.az (dI l)⟩,⟨vb,.obj [.ref 5 v0 6 0 0,.val (.int .i64 (a:Int)),.val (.int .i64 (c:Int))]⟩,⟨v0,.obj [.own 6 v1 1 0 s.l.length,.val (.int .i64 (s.k:Int)),.val (.int .i64 s.ar),.val (.int .i64 s.pt),.val (.bool s.dd),.val (.int .i64 s.wr)]⟩,⟨v1,.bytes s.l⟩,⟨vs,.row 3 (b7 3 vw) ⟨0,0,0,false⟩ (bX 0 l)⟩]
   (ak (.own 7 vs 3 0 (cN l l.length).length) [⟨vt,.obj [.val (.int .i64 (l.length:Int))]⟩,⟨vx,.obj [.ref 4 vb 3 0 0,.own 2 vr 3 0 l.length,.val (.slice none 0 0),.val (.int .i64 e),.val (.bool b)]⟩,⟨vr,.row 3 (b7 3 vw) ⟨0,0,0,false⟩ (bX 0 l)⟩,⟨vw,.az (dI l)⟩,⟨vb,.obj [.ref 5 v0 6 0 0,.val (.int .i64 (a:Int)),.val (.int .i64 (c:Int))]⟩,⟨v0,.obj [.own 6 v1 1 0 s.l.length,.val (.int .i64 (s.k:Int)),.val (.int .i64 s.ar),.val (.int .i64 s.pt),.val (.bool s.dd),.val (.int .i64 s.wr)]⟩,⟨v1,.bytes s.l⟩,⟨vs,.row 3 (b7 3 vw) ⟨0,0,0,false⟩ (cN l l.length)⟩] []):=by
 have lh:l.length≤140737488355328:=by have:=hb.2;rw[List.length_map] at this;exact this
 obtain⟨i,i1,i2,i3⟩:=Il (fj (l.map aj)) l.length
 have PR:=PI s a c l hb i i1 i2 i3 e b vt vx vr vw vb v0 v1 vs
 refine nh ai Tryz.func118 rfl Tryz.ntmps118 Tryz.results118 ?_
 refine gg ?_
 refine af (PR) Tryz.call163 (hrows:=⟨⟨⟨trivial,trivial⟩,rfl⟩,⟨⟨(by show 4<8;decide),(by show 2<8;decide),trivial,trivial,trivial,trivial⟩,rfl⟩,⟨fun _=>⟨(by show 3<8;decide),(by show 3<8;decide),trivial,trivial⟩,rfl⟩,⟨trivial,rfl⟩,⟨⟨(by show 5<8;decide),trivial,trivial,trivial⟩,rfl⟩,⟨⟨(by show 6<8;decide),trivial,trivial,trivial,trivial,trivial,trivial⟩,rfl⟩,⟨trivial,rfl⟩,⟨fun _=>⟨(by show 3<8;decide),(by show 3<8;decide),trivial,trivial⟩,rfl⟩,trivial⟩) (hr2:=⟨⟨trivial,trivial⟩,⟨rfl,rfl,trivial,trivial,trivial,trivial⟩,fun _=>⟨rfl,rfl,trivial,trivial⟩,trivial,⟨rfl,trivial,trivial,trivial⟩,⟨rfl,trivial,trivial,trivial,trivial,trivial,trivial⟩,trivial,fun _=>⟨rfl,rfl,trivial,trivial⟩,trivial⟩) 8 [0,1,2,3,4,5,6,7] [0,0,0,0,0,0,0,0] [] ?_
 by_cases c7:i<l.length
 ·rw[if_pos c7,if_pos c7]
  obtain⟨q1,q2⟩:=Im l i i1 i2
  obtain⟨q3,q4⟩:=Ik l i (i3 c7)
  refine gg ?_
  (refine aH ?_)
  conv=>whnf
  refine cE (fun j:Nat=>i+1≤j∧j≤l.length∧(dA (l.map aj) j).length<j) (fun j=>l.length - j) 8 [5,6,7,16,17,18,19,20,21,22,23,24,25,26,27,28,29,30,31,32,33,34,35] (fun j=>[(5,.val (.int .i64 ((dA (l.map aj) j).length:Int))),(6,.val (.int .i64 (j:Int)))]) (fun j=>[(0,⟨vt,.obj [.val (.int .i64 (j:Int))]⟩),(7,⟨vs,.row 3 (b7 3 vw) ⟨0,0,0,false⟩ (jL l j)⟩)]) (i+1) ⟨Nat.le_refl _,c7,by rw[q4,q2];exact Nat.lt_succ_self _⟩ ?_ ?_ ?_
  ·dsimp only[iE,qv,qw,aJ]
   rw[q4,q2]
   exact no_implicit_lambda%ten
  ·dsimp only[iE,qx,qy,aJ,Nat.reduceAdd,Nat.zero_add]
   rw[q3,q1]
   exact no_implicit_lambda%b6
  ·rintro j v ⟨j1,j2,j3⟩
   have dR:=PK l j j2
   refine cF ?_
   refine gg ?_
   refine⟨fun h=> ?_,fun h=> ?_⟩
   ·have ah:j<l.length:=by have:=of_decide_eq_true h;omega
    have PT:=PL l j ah
    refine gg ?_
    (try simp only[Int.toNat_natCast,Nat.zero_add])
    refine gg ?_
    try ((conv=>whnf);(refine And.intro ⟨rfl,⟨rfl,by rw[dR];exact ah⟩,Nat.le_of_ble_eq_true rfl⟩ ?_))
    rw[PT]
    refine gg ?_
    refine af (Ih s a c l hb j ah e b vt vx vr vw vb v0 v1) Tryz.call120 (hrows:=⟨⟨⟨trivial,trivial⟩,rfl⟩,⟨⟨(by show 4<7;decide),(by show 2<7;decide),trivial,trivial,trivial,trivial⟩,rfl⟩,⟨fun _=>⟨(by show 3<7;decide),(by show 3<7;decide),trivial,trivial⟩,rfl⟩,⟨trivial,rfl⟩,⟨⟨(by show 5<7;decide),trivial,trivial,trivial⟩,rfl⟩,⟨⟨(by show 6<7;decide),trivial,trivial,trivial,trivial,trivial,trivial⟩,rfl⟩,⟨trivial,rfl⟩,trivial⟩) (hr2:=⟨⟨trivial,trivial⟩,⟨rfl,rfl,trivial,trivial,trivial,trivial⟩,fun _=>⟨rfl,rfl,trivial,trivial⟩,trivial,⟨rfl,trivial,trivial,trivial⟩,⟨rfl,trivial,trivial,trivial,trivial,trivial,trivial⟩,trivial,trivial⟩) (hon:=⟨⟨(by show 3<7;decide),(by show 3<7;decide),trivial,trivial⟩,(by show 0<7;decide),(by show 1<7;decide),trivial⟩) 7 [0,1,2,3,4,5,6] [0,0,0,0,0,0,0] [] ?_
    cases eT:fj (l.map aj) j with
    | false=>
     obtain⟨w1,w2⟩:=Ik l j eT
     refine gg ?_
     refine nZ (j+1) ⟨by omega,ah,by rw[w2];omega⟩ (by show l.length - (j+1)<l.length - j;omega) ?_ ?_
     ·dsimp only[iE,qv,qw,aJ]
      rw[w2]
      exact no_implicit_lambda%ten
     ·dsimp only[iE,qx,qy,aJ,Nat.reduceAdd,Nat.zero_add]
      rw[w1]
      exact no_implicit_lambda%b6
    | true=>
     obtain⟨w1,w2⟩:=PM l j ah eT
     refine gg ?_
     (try simp only[Int.toNat_natCast,Nat.zero_add])
     refine⟨(bX 0 l).getD j ⟨0,0,0,false⟩,?_⟩
     try ((conv=>whnf);(refine And.intro ⟨rfl,rfl,by rw[dR];omega,⟨rfl,rfl,rfl,trivial⟩,rfl,by decide,rfl⟩ ?_))
     rw[w1]
     refine gg ?_
     refine nZ (j+1) ⟨by omega,ah,by rw[w2];omega⟩ (by show l.length - (j+1)<l.length - j;omega) ?_ ?_
     ·dsimp only[iE,qv,qw,aJ]
      rw[w2]
      exact no_implicit_lambda%ten
     ·exact no_implicit_lambda%b6
   ·obtain rfl:j=l.length:=by have:=of_decide_eq_false h;omega
    refine gg ?_
    (try simp only[Int.toNat_natCast,Nat.zero_add])
    try ((conv=>whnf);(refine And.intro ⟨rfl,rfl,by omega,by rw[dR];omega,rfl,rfl⟩ ?_))
    refine gg ?_
    (try simp only[Int.toNat_natCast,Nat.zero_add])
    (refine aH ?_)
    refine⟨_,Bn 7 ⟨vs,.row 3 (b7 3 vw) ⟨0,0,0,false⟩ (cN l l.length)⟩ rfl (dt.PJ vs 3 (by rw[PQ];exact PO ..)),?_⟩
    refine gg ?_
    rw[ox]
    exact⟨_,rfl,rfl,trivial⟩
 ·obtain rfl:i=l.length:=by omega
  obtain⟨q1,q2⟩:=Im l l.length i1 i2
  have e1:cN l l.length=bX 0 l:=by
   unfold jL at q1
   rw[q2,List.drop_of_length_le (by rw[di];exact Nat.le_refl _),List.append_nil] at q1
   exact q1
  have e2:(bX 0 l).length=l.length:=di l 0
  rw[if_neg c7,if_neg c7,e1,e2]
  refine gg ?_
  (refine aH ?_)
  refine⟨_,jb _,?_⟩
  refine gg ?_
  exact⟨_,rfl,rfl,trivial⟩
theorem Ip (rs : List Rr) (ps : List (List UInt8)) (n va wa : Nat) (hn : n = rs.length) (hl : rs.length ≤ 4194304) : Spec Tryz.prog 119 [.own 0 va 3 0 n] [⟨va, .row 3 (b7 1 wa) ⟨0, 0, 0, false⟩ rs⟩, ⟨wa, .az ps⟩]
   (ak (.own 7 2 3 0 n) [⟨va,.row 3 (b7 1 wa) ⟨0,0,0,false⟩ rs⟩,⟨wa,.az ps⟩] [(7,⟨2,.row 3 (b7 1 wa) ⟨0,0,0,false⟩ rs⟩)]):=by
 subst hn
 refine nh ai Tryz.func119 rfl Tryz.ntmps119 Tryz.results119 ?_
 refine gg ?_
 conv=>whnf
 intro b hb
 cases b with
 | true=>
  have h0:=hb rfl
  have gJ:rs=[]:=List.eq_nil_of_length_eq_zero h0
  subst gJ
  refine gg ?_
  (refine aH ?_)
  refine⟨_,lH 7 2 (.row 3 (b7 1 wa) ⟨0,0,0,false⟩ []) rfl (by decide) rfl (t':=[.any,.any,.own 7 2 3 0 0,.any,.any,.any,.any,.any]) ?_,?_⟩
  ·simp[jz,bc,aJ,aM,bu,dO,bF,bb,eF,dg,cL]
  refine gg ?_
  exact⟨_,rfl,rfl,by simp[allM,bb]⟩
 | false=>
  refine gg ?_
  conv=>whnf
  refine⟨Rr,b7 1 wa,⟨0,0,0,false⟩,rs,?_⟩
  conv=>whnf
  refine And.intro ⟨rfl,⟨rfl,rfl,by omega,fun _ _=>⟨rfl,rfl,rfl,trivial⟩⟩,rfl,rfl,rfl,rfl,.inr rfl,by(show List.map _ (List.take rs.length (List.drop 0 rs))=_;rw[List.drop_zero,List.take_length]),by(show rs.length*56≤_;omega),by decide⟩ ?_
  refine gg ?_
  refine⟨_,jb _,?_⟩
  refine gg ?_
  exact⟨_,rfl,rfl,rfl,trivial⟩
theorem PU(l:List RK)(j:Nat)(h:j<l.length):aP (l.take (j+1))=aP (l.take j)+(12+(l.getD j bG).key.length+(l.getD j bG).val.length):=by
 have key:∀(a:List RK)(r:RK),aP (a++[r])=aP a+(12+r.key.length+r.val.length):=by
  intro a r
  induction a with
  | nil=>simp[aP]
  | cons x a ih=>simp only[List.cons_append,aP,ih];omega
 rw[List.take_succ_eq_append_getElem h,key,List.getD_eq_getElem?_getD,List.getElem?_eq_getElem h];rfl
theorem PV(a b:List RK):aP (a++b)=aP a+aP b:=by
 induction a with
 | nil=>simp[aP]
 | cons x a ih=>simp only[List.cons_append,aP,ih];omega
theorem PW(l:List RK)(j:Nat):aP (l.take j)≤aP l:=by
 have:=PV (l.take j) (l.drop j)
 rw[List.take_append_drop] at this;omega
theorem yv {rs : List Rr} {ps : List (List UInt8)} {la : List RK} (h : cJ rs ps la) (hb : aP la ≤ 4611686018427387000) (hl : la.length ≤ 140737488355328) (s : U) (a c : Nat) (l : List Rc) (e : Int) (b : Bool) (n va wa vr vb v0 v1 : Nat) (hn : n = rs.length) : Spec Tryz.prog 79 [.agg [.ref 3 vb 3 0 0, .own 2 vr 3 0 l.length, .own 0 va 3 0 n, .val (.int .i64 e), .val (.bool b)]] [⟨va, .row 3 (b7 1 wa) ⟨0, 0, 0, false⟩ rs⟩, ⟨wa, .az ps⟩, ⟨vr, .row 3 (b7 1 wa) ⟨0, 0, 0, false⟩ (bX 0 l)⟩, ⟨vb, .obj [.ref 4 v0 6 0 0, .val (.int .i64 (a : Int)), .val (.int .i64 (c : Int))]⟩, ⟨v0, .obj [.own 5 v1 1 0 s.l.length, .val (.int .i64 (s.k : Int)), .val (.int .i64 s.ar), .val (.int .i64 s.pt), .val (.bool s.dd), .val (.int .i64 s.wr)]⟩, ⟨v1, .bytes s.l⟩]
   (ak (.val (.int .i64 (aP la:Int))) [⟨va,.row 3 (b7 1 wa) ⟨0,0,0,false⟩ rs⟩,⟨wa,.az ps⟩,⟨vr,.row 3 (b7 1 wa) ⟨0,0,0,false⟩ (bX 0 l)⟩,⟨vb,.obj [.ref 4 v0 6 0 0,.val (.int .i64 (a:Int)),.val (.int .i64 (c:Int))]⟩,⟨v0,.obj [.own 5 v1 1 0 s.l.length,.val (.int .i64 (s.k:Int)),.val (.int .i64 s.ar),.val (.int .i64 s.pt),.val (.bool s.dd),.val (.int .i64 s.wr)]⟩,⟨v1,.bytes s.l⟩] []):=by
 subst hn
 have hlen:=h.len
 refine ax ai Tryz.func79 rfl Tryz.ntmps79 Tryz.results79 ?_
 refine gg ?_
 (refine aH ?_)
 conv=>whnf
 refine cE (fun j:Nat=>j≤la.length) (fun j=>la.length - j) 6 [3,5,9,10,11,12,13,14,15,16,17,18,19,20,21,22] (fun j=>[(3,.val (.int .i64 (aP (la.take j):Int))),(9,.val (.int .i64 (j:Int)))]) (fun j=>[]) 0 (Nat.zero_le _) ?_ ?_ ?_
 ·exact no_implicit_lambda%ten
 ·exact no_implicit_lambda%b6
 ·rintro j v hj
  refine cF ?_
  refine gg ?_
  refine⟨fun h'=> ?_,fun h'=> ?_⟩
  ·have ah:j<la.length:=by have:=of_decide_eq_true h';omega
   have hu:=PU la j ah
   have lq:=PW la (j+1)
   have gU:j<rs.length:=by omega
   obtain⟨y1,y2,y3,y4,y5⟩:=h.el j _ _ (List.getElem?_eq_getElem gU) (List.getElem?_eq_getElem ah)
   have hg:rs.getD j ⟨0,0,0,false⟩=rs[j]:=by rw[List.getD_eq_getElem?_getD,List.getElem?_eq_getElem gU];rfl
   have jg:la.getD j bG=la[j]:=by rw[List.getD_eq_getElem?_getD,List.getElem?_eq_getElem ah];rfl
   rw[jg,←y2,←y4] at hu
   generalize rs[j]=x at hg hu
   refine gg ?_
   simp only[Int.toNat_natCast,Nat.zero_add]
   try ((conv=>whnf);(refine And.intro ⟨rfl,⟨rfl,gU⟩,Nat.le_of_ble_eq_true rfl⟩ ?_))
   rw[hg]
   refine gg ?_
   refine aY (qN (x.kn:Int) (x.vn:Int) (by omega) (by omega)) Tryz.call78 [] ?_
   refine gg ?_
   rw[show(aP (la.take j):Int)+(12+(x.kn:Int)+(x.vn:Int))=(aP (la.take (j+1)):Int) by omega]
   exact bk (j+1) ah (by show la.length - (j+1)<la.length - j;omega)
  ·obtain rfl:j=la.length:=by have:=of_decide_eq_false h';omega
   rw[List.take_length]
   refine gg ?_
   exact⟨_,rfl,rfl,trivial⟩
theorem nC {W : Int} {n k : Nat} (s : U) (c : Nat) (g : aw W n k s) (pa : aA n k 0 c) (pb : aA n k c c) (hd : s.dd = false) (hi : (s.a8 c).1 = 0) (l : List Rc) (e : Nat) (b : Bool) (hS : s.scan 0 c = (l, e, b)) (vs va vb v0 v1 : Nat) : Spec Tryz.prog 77 [.ref 0 vs 3 0 0] [⟨vs, .obj [.ref 3 v0 6 0 0, .ref 1 va 3 0 0, .ref 2 vb 3 0 0]⟩, ⟨va, .obj [.ref 3 v0 6 0 0, .val (.int .i64 ((0 : Nat) : Int)), .val (.int .i64 (c : Int))]⟩, ⟨vb, .obj [.ref 3 v0 6 0 0, .val (.int .i64 (c : Int)), .val (.int .i64 (c : Int))]⟩, ⟨v0, .obj [.own 4 v1 1 0 s.l.length, .val (.int .i64 (s.k : Int)), .val (.int .i64 s.ar), .val (.int .i64 s.pt), .val (.bool s.dd), .val (.int .i64 s.wr)]⟩, ⟨v1, .bytes s.l⟩]
   (ak (.aD [.agg [.ref 1 va 3 0 0,.own 30 (l.length+3) 3 0 l.length,.own 32 3 3 0 (cN l l.length).length,.val (.int .i64 (e:Int)),.val (.bool b)],.val (.int .i64 0)]) [⟨vs,.obj [.ref 3 v0 6 0 0,.ref 1 va 3 0 0,.ref 2 vb 3 0 0]⟩,⟨va,.obj [.ref 3 v0 6 0 0,.val (.int .i64 ((0:Nat):Int)),.val (.int .i64 (c:Int))]⟩,⟨vb,.obj [.ref 3 v0 6 0 0,.val (.int .i64 (c:Int)),.val (.int .i64 (c:Int))]⟩,⟨v0,.obj [.own 4 v1 1 0 s.l.length,.val (.int .i64 (s.k:Int)),.val (.int .i64 s.ar),.val (.int .i64 s.pt),.val (.bool s.dd),.val (.int .i64 s.wr)]⟩,⟨v1,.bytes s.l⟩]
    [(30,⟨l.length+3,.row 3 (b7 31 3) ⟨0,0,0,false⟩ (bX 0 l)⟩),(31,⟨3,.az (dI l)⟩),(32,⟨3,.row 3 (b7 31 3) ⟨0,0,0,false⟩ (cN l l.length)⟩)]):=by
 have dE:=pF s c g pa pb vs va vb v0 v1
 rw[hi] at dE
 have jF:=yg s 0 c g pa hd l.length (by rw[hS]) va v0 v1
 rw[hS] at jF
 have cG:=fI g pa hS
 have k7:=jH g pa hS
 refine ax ai Tryz.func77 rfl Tryz.ntmps77 Tryz.results77 ?_
 refine gg ?_
 refine aY (pJ s false hd v0 v1) Tryz.call31 [3,4] ?_
 refine gg ?_
 refine af (dE) Tryz.call69 5 [0,1,2,3,4] [0,0,0,0,0] [] ?_
 refine gg ?_
 refine af (jF) Tryz.call115 (he:=⟨fun _=>⟨rfl,rfl,trivial,trivial⟩,trivial,trivial⟩) 3 [1,3,4,0,0,0,0,0,0,0,0,0,0,30,31] [0,0,0,0,0,0,0,0,0,0,0,0,0,1,1] [13,14] ?_
 refine gg ?_
 refine af (Ip (bX 0 l) (dI l) l.length (l.length+2+1) 3 (di l 0).symm (by rw[di];exact k7)) Tryz.call119 (hrows:=⟨⟨fun _=>⟨Nat.lt_succ_self 1,Nat.lt_succ_self 1,trivial,trivial⟩,rfl⟩,⟨trivial,rfl⟩,trivial⟩) (hr2:=⟨fun _=>⟨rfl,rfl,trivial,trivial⟩,trivial,trivial⟩) (he:=⟨fun _=>⟨rfl,rfl,trivial,trivial⟩,trivial⟩) 2 [30,31,0,0,0,0,0,32] [0,0,0,0,0,0,0,1] [7] ?_
 refine gg ?_
 refine af (Io s 0 c l cG (e:Int) b 1 1 (l.length+3) 3 va v0 v1 3) Tryz.call118 (hrows:=⟨⟨⟨trivial,trivial⟩,rfl⟩,⟨⟨(by show 4<8;decide),(by show 2<8;decide),trivial,trivial,trivial,trivial⟩,rfl⟩,⟨fun _=>⟨(by show 3<8;decide),(by show 3<8;decide),trivial,trivial⟩,rfl⟩,⟨trivial,rfl⟩,⟨⟨(by show 5<8;decide),trivial,trivial,trivial⟩,rfl⟩,⟨⟨(by show 6<8;decide),trivial,trivial,trivial,trivial,trivial,trivial⟩,rfl⟩,⟨trivial,rfl⟩,⟨fun _=>⟨(by show 3<8;decide),(by show 3<8;decide),trivial,trivial⟩,rfl⟩,trivial⟩) (hr2:=⟨⟨trivial,trivial⟩,⟨rfl,rfl,trivial,trivial,trivial,trivial⟩,fun _=>⟨rfl,rfl,trivial,trivial⟩,trivial,⟨rfl,trivial,trivial,trivial⟩,⟨rfl,trivial,trivial,trivial,trivial,trivial,trivial⟩,trivial,fun _=>⟨rfl,rfl,trivial,trivial⟩,trivial⟩) 8 [14,12,30,31,1,3,4,32] [0,0,0,0,0,0,0,0] [] ?_
 refine gg ?_
 exact⟨_,rfl,rfl,rfl,rfl,rfl,trivial⟩
theorem nD {W : Int} {n k : Nat} (s : U) (c : Nat) (g : aw W n k s) (pa : aA n k 0 c) (pb : aA n k c c) (hd : s.dd = false) (hi : (s.a8 c).1 = 1) (l : List Rc) (e : Nat) (b : Bool) (hS : s.scan c c = (l, e, b)) (vs va vb v0 v1 : Nat) : Spec Tryz.prog 77 [.ref 0 vs 3 0 0] [⟨vs, .obj [.ref 3 v0 6 0 0, .ref 1 va 3 0 0, .ref 2 vb 3 0 0]⟩, ⟨va, .obj [.ref 3 v0 6 0 0, .val (.int .i64 ((0 : Nat) : Int)), .val (.int .i64 (c : Int))]⟩, ⟨vb, .obj [.ref 3 v0 6 0 0, .val (.int .i64 (c : Int)), .val (.int .i64 (c : Int))]⟩, ⟨v0, .obj [.own 4 v1 1 0 s.l.length, .val (.int .i64 (s.k : Int)), .val (.int .i64 s.ar), .val (.int .i64 s.pt), .val (.bool s.dd), .val (.int .i64 s.wr)]⟩, ⟨v1, .bytes s.l⟩]
   (ak (.aD [.agg [.ref 2 vb 3 0 0,.own 30 (l.length+3) 3 0 l.length,.own 32 3 3 0 (cN l l.length).length,.val (.int .i64 (e:Int)),.val (.bool b)],.val (.int .i64 0)]) [⟨vs,.obj [.ref 3 v0 6 0 0,.ref 1 va 3 0 0,.ref 2 vb 3 0 0]⟩,⟨va,.obj [.ref 3 v0 6 0 0,.val (.int .i64 ((0:Nat):Int)),.val (.int .i64 (c:Int))]⟩,⟨vb,.obj [.ref 3 v0 6 0 0,.val (.int .i64 (c:Int)),.val (.int .i64 (c:Int))]⟩,⟨v0,.obj [.own 4 v1 1 0 s.l.length,.val (.int .i64 (s.k:Int)),.val (.int .i64 s.ar),.val (.int .i64 s.pt),.val (.bool s.dd),.val (.int .i64 s.wr)]⟩,⟨v1,.bytes s.l⟩]
    [(30,⟨l.length+3,.row 3 (b7 31 3) ⟨0,0,0,false⟩ (bX 0 l)⟩),(31,⟨3,.az (dI l)⟩),(32,⟨3,.row 3 (b7 31 3) ⟨0,0,0,false⟩ (cN l l.length)⟩)]):=by
 have dE:=pF s c g pa pb vs va vb v0 v1
 rw[hi] at dE
 have jF:=yg s c c g pb hd l.length (by rw[hS]) vb v0 v1
 rw[hS] at jF
 have cG:=fI g pb hS
 have k7:=jH g pb hS
 refine ax ai Tryz.func77 rfl Tryz.ntmps77 Tryz.results77 ?_
 refine gg ?_
 refine aY (pJ s false hd v0 v1) Tryz.call31 [3,4] ?_
 refine gg ?_
 refine af (dE) Tryz.call69 5 [0,1,2,3,4] [0,0,0,0,0] [] ?_
 refine gg ?_
 refine af (jF) Tryz.call115 (he:=⟨fun _=>⟨rfl,rfl,trivial,trivial⟩,trivial,trivial⟩) 3 [2,3,4,0,0,0,0,0,0,0,0,0,0,30,31] [0,0,0,0,0,0,0,0,0,0,0,0,0,1,1] [13,14] ?_
 refine gg ?_
 refine af (Ip (bX 0 l) (dI l) l.length (l.length+2+1) 3 (di l 0).symm (by rw[di];exact k7)) Tryz.call119 (hrows:=⟨⟨fun _=>⟨Nat.lt_succ_self 1,Nat.lt_succ_self 1,trivial,trivial⟩,rfl⟩,⟨trivial,rfl⟩,trivial⟩) (hr2:=⟨fun _=>⟨rfl,rfl,trivial,trivial⟩,trivial,trivial⟩) (he:=⟨fun _=>⟨rfl,rfl,trivial,trivial⟩,trivial⟩) 2 [30,31,0,0,0,0,0,32] [0,0,0,0,0,0,0,1] [7] ?_
 refine gg ?_
 refine af (Io s c c l cG (e:Int) b 1 1 (l.length+3) 3 vb v0 v1 3) Tryz.call118 (hrows:=⟨⟨⟨trivial,trivial⟩,rfl⟩,⟨⟨(by show 4<8;decide),(by show 2<8;decide),trivial,trivial,trivial,trivial⟩,rfl⟩,⟨fun _=>⟨(by show 3<8;decide),(by show 3<8;decide),trivial,trivial⟩,rfl⟩,⟨trivial,rfl⟩,⟨⟨(by show 5<8;decide),trivial,trivial,trivial⟩,rfl⟩,⟨⟨(by show 6<8;decide),trivial,trivial,trivial,trivial,trivial,trivial⟩,rfl⟩,⟨trivial,rfl⟩,⟨fun _=>⟨(by show 3<8;decide),(by show 3<8;decide),trivial,trivial⟩,rfl⟩,trivial⟩) (hr2:=⟨⟨trivial,trivial⟩,⟨rfl,rfl,trivial,trivial,trivial,trivial⟩,fun _=>⟨rfl,rfl,trivial,trivial⟩,trivial,⟨rfl,trivial,trivial,trivial⟩,⟨rfl,trivial,trivial,trivial,trivial,trivial,trivial⟩,trivial,fun _=>⟨rfl,rfl,trivial,trivial⟩,trivial⟩) 8 [14,12,30,31,2,3,4,32] [0,0,0,0,0,0,0,0] [] ?_
 refine gg ?_
 exact⟨_,rfl,rfl,rfl,rfl,rfl,trivial⟩
theorem vR (s : U) (c : Nat) (hd : s.dd = true) (vs va vb v0 v1 : Nat) : Spec Tryz.prog 77 [.ref 0 vs 3 0 0] [⟨vs, .obj [.ref 3 v0 6 0 0, .ref 1 va 3 0 0, .ref 2 vb 3 0 0]⟩, ⟨va, .obj [.ref 3 v0 6 0 0, .val (.int .i64 ((0 : Nat) : Int)), .val (.int .i64 (c : Int))]⟩, ⟨vb, .obj [.ref 3 v0 6 0 0, .val (.int .i64 (c : Int)), .val (.int .i64 (c : Int))]⟩, ⟨v0, .obj [.own 4 v1 1 0 s.l.length, .val (.int .i64 (s.k : Int)), .val (.int .i64 s.ar), .val (.int .i64 s.pt), .val (.bool s.dd), .val (.int .i64 s.wr)]⟩, ⟨v1, .bytes s.l⟩]
   (ak (.aD [.agg [.val (.pointer none),.val (.slice none 0 0),.val (.slice none 0 0),.val (.int .i64 0),.val (.bool false)],.val (.int .i64 6)]) [⟨vs,.obj [.ref 3 v0 6 0 0,.ref 1 va 3 0 0,.ref 2 vb 3 0 0]⟩,⟨va,.obj [.ref 3 v0 6 0 0,.val (.int .i64 ((0:Nat):Int)),.val (.int .i64 (c:Int))]⟩,⟨vb,.obj [.ref 3 v0 6 0 0,.val (.int .i64 (c:Int)),.val (.int .i64 (c:Int))]⟩,⟨v0,.obj [.own 4 v1 1 0 s.l.length,.val (.int .i64 (s.k:Int)),.val (.int .i64 s.ar),.val (.int .i64 s.pt),.val (.bool s.dd),.val (.int .i64 s.wr)]⟩,⟨v1,.bytes s.l⟩] []):=by
 refine ax ai Tryz.func77 rfl Tryz.ntmps77 Tryz.results77 ?_
 refine gg ?_
 refine aY (pJ s true hd v0 v1) Tryz.call31 [3,4] ?_
 refine gg ?_
 exact⟨_,rfl,rfl,trivial⟩
end Go.Proofs.YtpbpiehcchannaaGreatDoor
