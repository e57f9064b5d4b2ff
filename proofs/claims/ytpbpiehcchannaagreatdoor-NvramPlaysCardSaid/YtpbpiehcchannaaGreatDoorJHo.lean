/- Walks of nvram: the records that are the store: slices.DeleteFunc. Walks of nvram: slices.Clone of records, used. Walks of nvram: now. Conditions: the premises of each law. -/
import Derived.Test.YtpbpiehcchannaaGreatDoorJHn
namespace Go.Proofs.YtpbpiehcchannaaGreatDoor
open Go.RowKit
set_option linter.unusedVariables false
set_option linter.unusedSimpArgs false
set_option maxRecDepth 100000
set_option maxHeartbeats 1500000
theorem dP.LX(v sz:Nat){α β:Type}{f:α→List AV}{d:α}{l:List α}{f':β→List AV}{d':β}{l':List β}(h:l'.map f'=(l.map f).take l'.length):dP ⟨v,.row sz f d l⟩ ⟨v,.row sz f' d' l'⟩:=by
 have hl:l'.length≤l.length:=by have:=congrArg List.length h;simp only[List.length_map,List.length_take] at this;omega
 refine⟨rfl,fun _=>rfl,fun q=> ?_,fun _ E w b h0=>⟨fun _=> ?_,fun _ _ _ q=>by cases q⟩,fun _ q=>by cases q⟩
 ·simp only[Bd.count] at q⊢;omega
 ·obtain⟨cur,T,lo,hi,h1,h2,h3,h4⟩:=h0.aO rfl
  refine⟨cur,T,lo,hi,h1,h2,?_,fun i ys hy=> ?_⟩
  ·simp only[Bd.count,Bd.sz] at h3⊢
   exact Nat.le_trans (Nat.mul_le_mul_right _ hl) h3
  ·refine h4 i ys ?_
   simp only[Bd.at] at hy⊢
   rw[←List.getElem?_map,h,List.getElem?_take] at hy
   rw[←List.getElem?_map]
   split at hy
   ·exact hy
   ·cases hy
def cB(l:List Rc)(n:Nat):List Rr:=(dI (l.map an) n).map fun j=>(bK 0 l).getD j ⟨0,0,0,false⟩
def iG(l:List Rc)(j:Nat):List Rr:=cB l j++(bK 0 l).drop (dI (l.map an) j).length
theorem mS(l:List Rc)(n:Nat):(cB l n).length=(dI (l.map an) n).length:=by simp[cB]
theorem LY(l:List Rc)(j:Nat)(hj:j≤l.length):(iG l j).length=l.length:=by
 have:=rf (l.map an) j
 unfold iG
 rw[List.length_append,mS,List.length_drop,cP];omega
theorem LZ(l:List Rc)(j:Nat)(hj:j<l.length):(iG l j).getD j ⟨0,0,0,false⟩=(bK 0 l).getD j ⟨0,0,0,false⟩:=by
 have:=rf (l.map an) j
 unfold iG
 rw[List.getD_eq_getElem?_getD,List.getElem?_append_right (by rw[mS];omega),List.getElem?_drop,mS,Nat.add_sub_cancel' this,←List.getD_eq_getElem?_getD]
theorem EU(l:List Rc)(j:Nat):cB l (j+1)=cB l j++if dV (l.map an) j then[(bK 0 l).getD j ⟨0,0,0,false⟩] else[]:=by
 unfold cB
 rw[re,List.map_append]
 congr 1
 split<;>rfl
theorem EV(l:List Rc)(j:Nat)(h:dV (l.map an) j=false):iG l (j+1)=iG l j∧(dI (l.map an) (j+1)).length=(dI (l.map an) j).length:=by
 have h1:dI (l.map an) (j+1)=dI (l.map an) j:=by rw[re,h];simp
 have h2:cB l (j+1)=cB l j:=by rw[EU,h];simp
 exact⟨by unfold iG;rw[h1,h2],by rw[h1]⟩
theorem L0(l:List Rc)(j:Nat)(hj:j<l.length)(h:dV (l.map an) j=true):(iG l j).set (dI (l.map an) j).length ((bK 0 l).getD j ⟨0,0,0,false⟩)=iG l (j+1)∧(dI (l.map an) (j+1)).length=(dI (l.map an) j).length+1:=by
 have h0:=rf (l.map an) j
 have h1:(dI (l.map an) (j+1)).length=(dI (l.map an) j).length+1:=by rw[re,h];simp
 refine⟨?_,h1⟩
 unfold iG
 rw[h1,EU,h,if_pos rfl,List.set_append_right _ _ (by rw[mS];exact Nat.le_refl _),mS,Nat.sub_self,List.append_assoc]
 congr 1
 rw[List.drop_eq_getElem_cons (by rw[cP];omega),List.set_cons_zero]
 rfl
theorem EW(p:Nat→Bool):∀n:Nat,∃i,i≤n∧(∀j,j<i→p j=true)∧(i<n→p i=false)
 | 0=>⟨0,Nat.le_refl _,fun j h=>absurd h (Nat.not_lt_zero j),fun h=>absurd h (Nat.lt_irrefl 0)⟩
 | n+1=>by
  obtain⟨i,h1,h2,h3⟩:=EW p n
  by_cases h:i<n
  ·exact⟨i,by omega,h2,fun _=>h3 h⟩
  ·obtain rfl:i=n:=by omega
   cases hp:p i with
   | true=>exact⟨i+1,Nat.le_refl _,fun j hj=>by rcases Nat.lt_or_eq_of_le (Nat.le_of_lt_succ hj) with q | q;exact h2 j q;rw[q];exact hp,fun q=>absurd q (Nat.lt_irrefl _)⟩
   | false=>exact⟨i,Nat.le_succ _,h2,fun _=>hp⟩
theorem L1(l:List RK):∀n:Nat,(∀j,j<n→dV l j=true)→dI l n=List.range n:=by
 intro n h
 unfold dI
 rw[List.filter_eq_self]
 intro j hj
 exact h j (List.mem_range.1 hj)
theorem EX(l:List Rc)(j:Nat)(hj:j≤l.length)(h:∀i,i<j→dV (l.map an) i=true):iG l j=bK 0 l∧(dI (l.map an) j).length=j:=by
 have h1:=L1 _ j h
 have h2:cB l j=(bK 0 l).take j:=by
  unfold cB
  rw[h1]
  apply List.ext_getElem?
  intro q
  rw[List.getElem?_map,List.getElem?_take]
  by_cases hq:q<j
  ·have hl:q< (bK 0 l).length:=by rw[cP];omega
   rw[List.getElem?_range hq,if_pos hq,Option.map_some,List.getD_eq_getElem?_getD,List.getElem?_eq_getElem hl];rfl
  ·rw[if_neg hq,List.getElem?_eq_none (by simp;omega)];rfl
 refine⟨?_,by rw[h1,List.length_range]⟩
 unfold iG
 rw[h1,h2,List.length_range,List.take_append_drop]
theorem L2{α:Type}(f:α→List AV)(z:List Value)(A:List α)(R:List (Option α)):A.map f=((A.map some++R).map (xD f z)).take A.length:=by
 rw[List.map_append,List.map_map,List.take_left' (by simp)];rfl
theorem L3(l:List Rc)(j:Nat):(iG l j).take (dI (l.map an) j).length=cB l j:=by
 unfold iG
 exact List.take_left' (mS l j)
theorem EY (s : J) (a c : Nat) (l : List Rc) (hb : (∀ r ∈ l.map an, r.key.length ≤ 140737488355328 ∧ r.val.length ≤ 140737488355328) ∧ (l.map an).length ≤ 140737488355328) (e : Int) (b : Bool) (vt vx vr vw vb v0 v1 vs : Nat) :
   Spec Tryz.prog 118 [.own 7 vs 3 0 l.length,.clo 120 [.ref 0 vt 1 0 0,.ref 1 vx 5 0 0]] [⟨vt,.obj [.val (.int .i64 0)]⟩,⟨vx,.obj [.ref 4 vb 3 0 0,.own 2 vr 3 0 l.length,.val (.slice none 0 0),.val (.int .i64 e),.val (.bool b)]⟩,⟨vr,.row 3 (bO 3 vw) ⟨0,0,0,false⟩ (bK 0 l)⟩,⟨vw,.aB (cV l)⟩,⟨vb,.obj [.ref 5 v0 6 0 0,.val (.int .i64 (a:Int)),.val (.int .i64 (c:Int))]⟩,⟨v0,.obj [.own 6 v1 1 0 s.l.length,.val (.int .i64 (s.k:Int)),.val (.int .i64 s.ar),.val (.int .i64 s.pt),.val (.bool s.dd),.val (.int .i64 s.wr)]⟩,⟨v1,.bytes s.l⟩,⟨vs,.row 3 (bO 3 vw) ⟨0,0,0,false⟩ (bK 0 l)⟩]
   (ak (.own 7 vs 3 0 (cB l l.length).length) [⟨vt,.obj [.val (.int .i64 (l.length:Int))]⟩,⟨vx,.obj [.ref 4 vb 3 0 0,.own 2 vr 3 0 l.length,.val (.slice none 0 0),.val (.int .i64 e),.val (.bool b)]⟩,⟨vr,.row 3 (bO 3 vw) ⟨0,0,0,false⟩ (bK 0 l)⟩,⟨vw,.aB (cV l)⟩,⟨vb,.obj [.ref 5 v0 6 0 0,.val (.int .i64 (a:Int)),.val (.int .i64 (c:Int))]⟩,⟨v0,.obj [.own 6 v1 1 0 s.l.length,.val (.int .i64 (s.k:Int)),.val (.int .i64 s.ar),.val (.int .i64 s.pt),.val (.bool s.dd),.val (.int .i64 s.wr)]⟩,⟨v1,.bytes s.l⟩,⟨vs,.row 3 (bO 3 vw) ⟨0,0,0,false⟩ (cB l l.length)⟩] []):=by
 have vH:l.length≤140737488355328:=by have:=hb.2;rw[List.length_map] at this;exact this
 obtain⟨i,i1,i2,i3⟩:=EW (dV (l.map an)) l.length
 have L4:=LW s a c l hb i i1 i2 i3 e b vt vx vr vw vb v0 v1 vs
 refine nM aj Tryz.func118 rfl Tryz.ntmps118 Tryz.results118 ?_
 refine gg (k:= ?_)
 refine ae (L4) Tryz.call163 (hrows:=⟨⟨⟨trivial,trivial⟩,rfl⟩,⟨⟨(by show 4<8;decide),(by show 2<8;decide),trivial,trivial,trivial,trivial⟩,rfl⟩,⟨fun _=>⟨(by show 3<8;decide),(by show 3<8;decide),trivial,trivial⟩,rfl⟩,⟨trivial,rfl⟩,⟨⟨(by show 5<8;decide),trivial,trivial,trivial⟩,rfl⟩,⟨⟨(by show 6<8;decide),trivial,trivial,trivial,trivial,trivial,trivial⟩,rfl⟩,⟨trivial,rfl⟩,⟨fun _=>⟨(by show 3<8;decide),(by show 3<8;decide),trivial,trivial⟩,rfl⟩,trivial⟩) (hr2:=⟨⟨trivial,trivial⟩,⟨rfl,rfl,trivial,trivial,trivial,trivial⟩,fun _=>⟨rfl,rfl,trivial,trivial⟩,trivial,⟨rfl,trivial,trivial,trivial⟩,⟨rfl,trivial,trivial,trivial,trivial,trivial,trivial⟩,trivial,fun _=>⟨rfl,rfl,trivial,trivial⟩,trivial⟩) 8 [0,1,2,3,4,5,6,7] [0,0,0,0,0,0,0,0] [] ?_
 by_cases bV:i<l.length
 ·rw[if_pos bV,if_pos bV]
  obtain⟨q1,q2⟩:=EX l i i1 i2
  obtain⟨q3,q4⟩:=EV l i (i3 bV)
  refine gg (k:= ?_)
  (refine ax (k:= ?_))
  conv=>whnf
  refine bh (fun j:Nat=>i+1≤j∧j≤l.length∧(dI (l.map an) j).length<j) (fun j=>l.length - j) 8 [5,6,7,16,17,18,19,20,21,22,23,24,25,26,27,28,29,30,31,32,33,34,35] (fun j=>[(5,.val (.int .i64 ((dI (l.map an) j).length:Int))),(6,.val (.int .i64 (j:Int)))]) (fun j=>[(0,⟨vt,.obj [.val (.int .i64 (j:Int))]⟩),(7,⟨vs,.row 3 (bO 3 vw) ⟨0,0,0,false⟩ (iG l j)⟩)]) (i+1) ⟨Nat.le_refl _,bV,by rw[q4,q2];exact Nat.lt_succ_self _⟩ ?_ ?_ ?_
  ·dsimp only[dt,hY,hZ,aH]
   rw[q4,q2]
   exact no_implicit_lambda%ten
  ·dsimp only[dt,jA,jB,aH,Nat.reduceAdd,Nat.zero_add]
   rw[q3,q1]
   exact no_implicit_lambda%az
  ·rintro j v ⟨j1,j2,j3⟩
   have dn:=LY l j j2
   refine bc (k:= ?_)
   refine gg (k:= ?_)
   refine⟨fun h=> ?_,fun h=> ?_⟩
   ·have ai:j<l.length:=by have:=of_decide_eq_true h;omega
    have L5:=LZ l j ai
    refine gg (k:= ?_)
    (try simp only[Int.toNat_natCast,Nat.zero_add])
    refine gg (k:= ?_)
    try ((conv=>whnf);(refine And.intro ⟨rfl,⟨rfl,by rw[dn];exact ai⟩,Nat.le_of_ble_eq_true rfl⟩ ?_))
    rw[L5]
    refine gg (k:= ?_)
    refine ae (ES s a c l hb j ai e b vt vx vr vw vb v0 v1) Tryz.call120 (hrows:=⟨⟨⟨trivial,trivial⟩,rfl⟩,⟨⟨(by show 4<7;decide),(by show 2<7;decide),trivial,trivial,trivial,trivial⟩,rfl⟩,⟨fun _=>⟨(by show 3<7;decide),(by show 3<7;decide),trivial,trivial⟩,rfl⟩,⟨trivial,rfl⟩,⟨⟨(by show 5<7;decide),trivial,trivial,trivial⟩,rfl⟩,⟨⟨(by show 6<7;decide),trivial,trivial,trivial,trivial,trivial,trivial⟩,rfl⟩,⟨trivial,rfl⟩,trivial⟩) (hr2:=⟨⟨trivial,trivial⟩,⟨rfl,rfl,trivial,trivial,trivial,trivial⟩,fun _=>⟨rfl,rfl,trivial,trivial⟩,trivial,⟨rfl,trivial,trivial,trivial⟩,⟨rfl,trivial,trivial,trivial,trivial,trivial,trivial⟩,trivial,trivial⟩) (hon:=⟨⟨(by show 3<7;decide),(by show 3<7;decide),trivial,trivial⟩,(by show 0<7;decide),(by show 1<7;decide),trivial⟩) 7 [0,1,2,3,4,5,6] [0,0,0,0,0,0,0] [] ?_
    cases dM:dV (l.map an) j with
    | false=>
     obtain⟨w1,w2⟩:=EV l j dM
     refine gg (k:= ?_)
     refine aM (j+1) ⟨by omega,ai,by rw[w2];omega⟩ (by show l.length - (j+1)<l.length - j;omega) ?_ ?_
     ·dsimp only[dt,hY,hZ,aH]
      rw[w2]
      exact no_implicit_lambda%ten
     ·dsimp only[dt,jA,jB,aH,Nat.reduceAdd,Nat.zero_add]
      rw[w1]
      exact no_implicit_lambda%az
    | true=>
     obtain⟨w1,w2⟩:=L0 l j ai dM
     refine gg (k:= ?_)
     (try simp only[Int.toNat_natCast,Nat.zero_add])
     refine⟨(bK 0 l).getD j ⟨0,0,0,false⟩,?_⟩
     try ((conv=>whnf);(refine And.intro ⟨rfl,rfl,by rw[dn];omega,⟨rfl,rfl,rfl,trivial⟩,rfl,by decide,rfl⟩ ?_))
     rw[w1]
     refine gg (k:= ?_)
     refine aM (j+1) ⟨by omega,ai,by rw[w2];omega⟩ (by show l.length - (j+1)<l.length - j;omega) ?_ ?_
     ·dsimp only[dt,hY,hZ,aH]
      rw[w2]
      exact no_implicit_lambda%ten
     ·exact no_implicit_lambda%az
   ·obtain rfl:j=l.length:=by have:=of_decide_eq_false h;omega
    refine gg (k:= ?_)
    (try simp only[Int.toNat_natCast,Nat.zero_add])
    try ((conv=>whnf);(refine And.intro ⟨rfl,rfl,by omega,by rw[dn];omega,rfl,rfl⟩ ?_))
    refine gg (k:= ?_)
    (try simp only[Int.toNat_natCast,Nat.zero_add])
    (refine ax (k:= ?_))
    refine⟨_,CO 7 ⟨vs,.row 3 (bO 3 vw) ⟨0,0,0,false⟩ (cB l l.length)⟩ rfl (dP.LX vs 3 (by rw[L3];exact L2 ..)),?_⟩
    refine gg (k:= ?_)
    rw[mS]
    exact⟨_,rfl,rfl,trivial⟩
 ·obtain rfl:i=l.length:=by omega
  obtain⟨q1,q2⟩:=EX l l.length i1 i2
  have e1:cB l l.length=bK 0 l:=by
   unfold iG at q1
   rw[q2,List.drop_of_length_le (by rw[cP];exact Nat.le_refl _),List.append_nil] at q1
   exact q1
  have e2:(bK 0 l).length=l.length:=cP l 0
  rw[if_neg bV,if_neg bV,e1,e2]
  refine gg (k:= ?_)
  (refine ax (k:= ?_))
  refine⟨_,lO _,?_⟩
  refine gg (k:= ?_)
  exact⟨_,rfl,rfl,trivial⟩
end Go.Proofs.YtpbpiehcchannaaGreatDoor
namespace Go.Proofs.YtpbpiehcchannaaGreatDoor
open Go.RowKit
set_option linter.unusedVariables false
set_option linter.unusedSimpArgs false
set_option maxRecDepth 100000
set_option maxHeartbeats 1500000
theorem EZ (rs : List Rr) (ps : List (List UInt8)) (n va wa : Nat) (hn : n = rs.length) (hl : rs.length ≤ 4194304) : Spec Tryz.prog 119 [.own 0 va 3 0 n] [⟨va, .row 3 (bO 1 wa) ⟨0, 0, 0, false⟩ rs⟩, ⟨wa, .aB ps⟩]
   (ak (.own 7 2 3 0 n) [⟨va,.row 3 (bO 1 wa) ⟨0,0,0,false⟩ rs⟩,⟨wa,.aB ps⟩] [(7,⟨2,.row 3 (bO 1 wa) ⟨0,0,0,false⟩ rs⟩)]):=by
 subst hn
 refine nM aj Tryz.func119 rfl Tryz.ntmps119 Tryz.results119 ?_
 refine gg (k:= ?_)
 conv=>whnf
 intro b hb
 cases b with
 | true=>
  have h0:=hb rfl
  have gL:rs=[]:=List.eq_nil_of_length_eq_zero h0
  subst gL
  refine gg (k:= ?_)
  (refine ax (k:= ?_))
  refine⟨_,ia 7 2 (.row 3 (bO 1 wa) ⟨0,0,0,false⟩ []) rfl (by decide) rfl (t':=[.any,.any,.own 7 2 3 0 0,.any,.any,.any,.any,.any]) ?_,?_⟩
  ·simp[iz,aV,aH,aK,aZ,dB,bn,aT,dO,cN,cx]
  refine gg (k:= ?_)
  exact⟨_,rfl,rfl,by simp[allM,aT]⟩
 | false=>
  refine gg (k:= ?_)
  conv=>whnf
  refine⟨Rr,bO 1 wa,⟨0,0,0,false⟩,rs,?_⟩
  conv=>whnf
  refine And.intro ⟨rfl,⟨rfl,rfl,by omega,fun _ _=>⟨rfl,rfl,rfl,trivial⟩⟩,rfl,rfl,rfl,rfl,.inr rfl,by(show List.map _ (List.take rs.length (List.drop 0 rs))=_;rw[List.drop_zero,List.take_length]),by(show rs.length*56≤_;omega),by decide⟩ ?_
  refine gg (k:= ?_)
  refine⟨_,lO _,?_⟩
  refine gg (k:= ?_)
  exact⟨_,rfl,rfl,rfl,trivial⟩
theorem E4(l:List RK)(j:Nat)(h:j<l.length):bw (l.take (j+1))=bw (l.take j)+(12+(l.getD j bl).key.length+(l.getD j bl).val.length):=by
 have key:∀(a:List RK)(r:RK),bw (a++[r])=bw a+(12+r.key.length+r.val.length):=by
  intro a r
  induction a with
  | nil=>simp[bw]
  | cons x a ih=>simp only[List.cons_append,bw,ih];omega
 rw[List.take_succ_eq_append_getElem h,key,List.getD_eq_getElem?_getD,List.getElem?_eq_getElem h];rfl
theorem L6(a b:List RK):bw (a++b)=bw a+bw b:=by
 induction a with
 | nil=>simp[bw]
 | cons x a ih=>simp only[List.cons_append,bw,ih];omega
theorem zR(l:List RK)(j:Nat):bw (l.take j)≤bw l:=by
 have:=L6 (l.take j) (l.drop j)
 rw[List.take_append_drop] at this;omega
theorem vK {rs : List Rr} {ps : List (List UInt8)} {la : List RK} (h : ct rs ps la) (hb : bw la ≤ 4611686018427387000) (hl : la.length ≤ 140737488355328) (s : J) (a c : Nat) (l : List Rc) (e : Int) (b : Bool) (n va wa vr vb v0 v1 : Nat) (hn : n = rs.length) : Spec Tryz.prog 79 [.agg [.ref 3 vb 3 0 0, .own 2 vr 3 0 l.length, .own 0 va 3 0 n, .val (.int .i64 e), .val (.bool b)]] [⟨va, .row 3 (bO 1 wa) ⟨0, 0, 0, false⟩ rs⟩, ⟨wa, .aB ps⟩, ⟨vr, .row 3 (bO 1 wa) ⟨0, 0, 0, false⟩ (bK 0 l)⟩, ⟨vb, .obj [.ref 4 v0 6 0 0, .val (.int .i64 (a : Int)), .val (.int .i64 (c : Int))]⟩, ⟨v0, .obj [.own 5 v1 1 0 s.l.length, .val (.int .i64 (s.k : Int)), .val (.int .i64 s.ar), .val (.int .i64 s.pt), .val (.bool s.dd), .val (.int .i64 s.wr)]⟩, ⟨v1, .bytes s.l⟩]
   (ak (.val (.int .i64 (bw la:Int))) [⟨va,.row 3 (bO 1 wa) ⟨0,0,0,false⟩ rs⟩,⟨wa,.aB ps⟩,⟨vr,.row 3 (bO 1 wa) ⟨0,0,0,false⟩ (bK 0 l)⟩,⟨vb,.obj [.ref 4 v0 6 0 0,.val (.int .i64 (a:Int)),.val (.int .i64 (c:Int))]⟩,⟨v0,.obj [.own 5 v1 1 0 s.l.length,.val (.int .i64 (s.k:Int)),.val (.int .i64 s.ar),.val (.int .i64 s.pt),.val (.bool s.dd),.val (.int .i64 s.wr)]⟩,⟨v1,.bytes s.l⟩] []):=by
 subst hn
 have hlen:=h.len
 refine aq aj Tryz.func79 rfl Tryz.ntmps79 Tryz.results79 ?_
 refine gg (k:= ?_)
 (refine ax (k:= ?_))
 conv=>whnf
 refine bh (fun j:Nat=>j≤la.length) (fun j=>la.length - j) 6 [3,5,9,10,11,12,13,14,15,16,17,18,19,20,21,22] (fun j=>[(3,.val (.int .i64 (bw (la.take j):Int))),(9,.val (.int .i64 (j:Int)))]) (fun j=>[]) 0 (Nat.zero_le _) ?_ ?_ ?_
 ·exact no_implicit_lambda%ten
 ·exact no_implicit_lambda%az
 ·rintro j v hj
  refine bc (k:= ?_)
  refine gg (k:= ?_)
  refine⟨fun h'=> ?_,fun h'=> ?_⟩
  ·have ai:j<la.length:=by have:=of_decide_eq_true h';omega
   have hu:=E4 la j ai
   have ly:=zR la (j+1)
   have fq:j<rs.length:=by omega
   obtain⟨y1,y2,y3,y4,y5⟩:=h.el j _ _ (List.getElem?_eq_getElem fq) (List.getElem?_eq_getElem ai)
   have hg:rs.getD j ⟨0,0,0,false⟩=rs[j]:=by rw[List.getD_eq_getElem?_getD,List.getElem?_eq_getElem fq];rfl
   have eA:la.getD j bl=la[j]:=by rw[List.getD_eq_getElem?_getD,List.getElem?_eq_getElem ai];rfl
   rw[eA,←y2,←y4] at hu
   generalize rs[j]=x at hg hu
   refine gg (k:= ?_)
   simp only[Int.toNat_natCast,Nat.zero_add]
   try ((conv=>whnf);(refine And.intro ⟨rfl,⟨rfl,fq⟩,Nat.le_of_ble_eq_true rfl⟩ ?_))
   rw[hg]
   refine gg (k:= ?_)
   refine aP (qM (x.kn:Int) (x.vn:Int) (by omega) (by omega)) Tryz.call78 [] ?_
   refine gg (k:= ?_)
   rw[show(bw (la.take j):Int)+(12+(x.kn:Int)+(x.vn:Int))=(bw (la.take (j+1)):Int) by omega]
   refine aM (j+1) ai (by show la.length - (j+1)<la.length - j;omega) ?_ ?_
   ·exact no_implicit_lambda%ten
   ·exact no_implicit_lambda%az
  ·obtain rfl:j=la.length:=by have:=of_decide_eq_false h';omega
   rw[List.take_length]
   refine gg (k:= ?_)
   exact⟨_,rfl,rfl,trivial⟩
end Go.Proofs.YtpbpiehcchannaaGreatDoor
namespace Go.Proofs.YtpbpiehcchannaaGreatDoor
open Go.RowKit
set_option linter.unusedVariables false
set_option linter.unusedSimpArgs false
set_option maxRecDepth 100000
set_option maxHeartbeats 1500000
theorem l8 {W : Int} {n k : Nat} (s : J) (c : Nat) (g : av W n k s) (pa : aC n k 0 c) (pb : aC n k c c) (hd : s.dd = false) (hi : (s.aI c).1 = 0) (l : List Rc) (e : Nat) (b : Bool) (hS : s.scan 0 c = (l, e, b)) (vs va vb v0 v1 : Nat) : Spec Tryz.prog 77 [.ref 0 vs 3 0 0] [⟨vs, .obj [.ref 3 v0 6 0 0, .ref 1 va 3 0 0, .ref 2 vb 3 0 0]⟩, ⟨va, .obj [.ref 3 v0 6 0 0, .val (.int .i64 ((0 : Nat) : Int)), .val (.int .i64 (c : Int))]⟩, ⟨vb, .obj [.ref 3 v0 6 0 0, .val (.int .i64 (c : Int)), .val (.int .i64 (c : Int))]⟩, ⟨v0, .obj [.own 4 v1 1 0 s.l.length, .val (.int .i64 (s.k : Int)), .val (.int .i64 s.ar), .val (.int .i64 s.pt), .val (.bool s.dd), .val (.int .i64 s.wr)]⟩, ⟨v1, .bytes s.l⟩]
   (ak (.al [.agg [.ref 1 va 3 0 0,.own 30 (l.length+3) 3 0 l.length,.own 32 3 3 0 (cB l l.length).length,.val (.int .i64 (e:Int)),.val (.bool b)],.val (.int .i64 0)]) [⟨vs,.obj [.ref 3 v0 6 0 0,.ref 1 va 3 0 0,.ref 2 vb 3 0 0]⟩,⟨va,.obj [.ref 3 v0 6 0 0,.val (.int .i64 ((0:Nat):Int)),.val (.int .i64 (c:Int))]⟩,⟨vb,.obj [.ref 3 v0 6 0 0,.val (.int .i64 (c:Int)),.val (.int .i64 (c:Int))]⟩,⟨v0,.obj [.own 4 v1 1 0 s.l.length,.val (.int .i64 (s.k:Int)),.val (.int .i64 s.ar),.val (.int .i64 s.pt),.val (.bool s.dd),.val (.int .i64 s.wr)]⟩,⟨v1,.bytes s.l⟩]
    [(30,⟨l.length+3,.row 3 (bO 31 3) ⟨0,0,0,false⟩ (bK 0 l)⟩),(31,⟨3,.aB (cV l)⟩),(32,⟨3,.row 3 (bO 31 3) ⟨0,0,0,false⟩ (cB l l.length)⟩)]):=by
 have db:=n5 s c g pa pb vs va vb v0 v1
 rw[hi] at db
 have eC:=vA s 0 c g pa hd l.length (by rw[hS]) va v0 v1
 rw[hS] at eC
 have b9:=eB g pa hS
 have jm:=ja g pa hS
 refine aq aj Tryz.func77 rfl Tryz.ntmps77 Tryz.results77 ?_
 refine gg (k:= ?_)
 refine aP (sY s false hd v0 v1) Tryz.call31 [3,4] ?_
 refine gg (k:= ?_)
 refine ae (db) Tryz.call69 5 [0,1,2,3,4] [0,0,0,0,0] [] ?_
 refine gg (k:= ?_)
 refine ae (eC) Tryz.call115 (he:=⟨fun _=>⟨rfl,rfl,trivial,trivial⟩,trivial,trivial⟩) 3 [1,3,4,0,0,0,0,0,0,0,0,0,0,30,31] [0,0,0,0,0,0,0,0,0,0,0,0,0,1,1] [13,14] ?_
 refine gg (k:= ?_)
 refine ae (EZ (bK 0 l) (cV l) l.length (l.length+2+1) 3 (cP l 0).symm (by rw[cP];exact jm)) Tryz.call119 (hrows:=⟨⟨fun _=>⟨Nat.lt_succ_self 1,Nat.lt_succ_self 1,trivial,trivial⟩,rfl⟩,⟨trivial,rfl⟩,trivial⟩) (hr2:=⟨fun _=>⟨rfl,rfl,trivial,trivial⟩,trivial,trivial⟩) (he:=⟨fun _=>⟨rfl,rfl,trivial,trivial⟩,trivial⟩) 2 [30,31,0,0,0,0,0,32] [0,0,0,0,0,0,0,1] [7] ?_
 refine gg (k:= ?_)
 refine ae (EY s 0 c l b9 (e:Int) b 1 1 (l.length+3) 3 va v0 v1 3) Tryz.call118 (hrows:=⟨⟨⟨trivial,trivial⟩,rfl⟩,⟨⟨(by show 4<8;decide),(by show 2<8;decide),trivial,trivial,trivial,trivial⟩,rfl⟩,⟨fun _=>⟨(by show 3<8;decide),(by show 3<8;decide),trivial,trivial⟩,rfl⟩,⟨trivial,rfl⟩,⟨⟨(by show 5<8;decide),trivial,trivial,trivial⟩,rfl⟩,⟨⟨(by show 6<8;decide),trivial,trivial,trivial,trivial,trivial,trivial⟩,rfl⟩,⟨trivial,rfl⟩,⟨fun _=>⟨(by show 3<8;decide),(by show 3<8;decide),trivial,trivial⟩,rfl⟩,trivial⟩) (hr2:=⟨⟨trivial,trivial⟩,⟨rfl,rfl,trivial,trivial,trivial,trivial⟩,fun _=>⟨rfl,rfl,trivial,trivial⟩,trivial,⟨rfl,trivial,trivial,trivial⟩,⟨rfl,trivial,trivial,trivial,trivial,trivial,trivial⟩,trivial,fun _=>⟨rfl,rfl,trivial,trivial⟩,trivial⟩) 8 [14,12,30,31,1,3,4,32] [0,0,0,0,0,0,0,0] [] ?_
 refine gg (k:= ?_)
 exact⟨_,rfl,rfl,rfl,rfl,rfl,trivial⟩
theorem l9 {W : Int} {n k : Nat} (s : J) (c : Nat) (g : av W n k s) (pa : aC n k 0 c) (pb : aC n k c c) (hd : s.dd = false) (hi : (s.aI c).1 = 1) (l : List Rc) (e : Nat) (b : Bool) (hS : s.scan c c = (l, e, b)) (vs va vb v0 v1 : Nat) : Spec Tryz.prog 77 [.ref 0 vs 3 0 0] [⟨vs, .obj [.ref 3 v0 6 0 0, .ref 1 va 3 0 0, .ref 2 vb 3 0 0]⟩, ⟨va, .obj [.ref 3 v0 6 0 0, .val (.int .i64 ((0 : Nat) : Int)), .val (.int .i64 (c : Int))]⟩, ⟨vb, .obj [.ref 3 v0 6 0 0, .val (.int .i64 (c : Int)), .val (.int .i64 (c : Int))]⟩, ⟨v0, .obj [.own 4 v1 1 0 s.l.length, .val (.int .i64 (s.k : Int)), .val (.int .i64 s.ar), .val (.int .i64 s.pt), .val (.bool s.dd), .val (.int .i64 s.wr)]⟩, ⟨v1, .bytes s.l⟩]
   (ak (.al [.agg [.ref 2 vb 3 0 0,.own 30 (l.length+3) 3 0 l.length,.own 32 3 3 0 (cB l l.length).length,.val (.int .i64 (e:Int)),.val (.bool b)],.val (.int .i64 0)]) [⟨vs,.obj [.ref 3 v0 6 0 0,.ref 1 va 3 0 0,.ref 2 vb 3 0 0]⟩,⟨va,.obj [.ref 3 v0 6 0 0,.val (.int .i64 ((0:Nat):Int)),.val (.int .i64 (c:Int))]⟩,⟨vb,.obj [.ref 3 v0 6 0 0,.val (.int .i64 (c:Int)),.val (.int .i64 (c:Int))]⟩,⟨v0,.obj [.own 4 v1 1 0 s.l.length,.val (.int .i64 (s.k:Int)),.val (.int .i64 s.ar),.val (.int .i64 s.pt),.val (.bool s.dd),.val (.int .i64 s.wr)]⟩,⟨v1,.bytes s.l⟩]
    [(30,⟨l.length+3,.row 3 (bO 31 3) ⟨0,0,0,false⟩ (bK 0 l)⟩),(31,⟨3,.aB (cV l)⟩),(32,⟨3,.row 3 (bO 31 3) ⟨0,0,0,false⟩ (cB l l.length)⟩)]):=by
 have db:=n5 s c g pa pb vs va vb v0 v1
 rw[hi] at db
 have eC:=vA s c c g pb hd l.length (by rw[hS]) vb v0 v1
 rw[hS] at eC
 have b9:=eB g pb hS
 have jm:=ja g pb hS
 refine aq aj Tryz.func77 rfl Tryz.ntmps77 Tryz.results77 ?_
 refine gg (k:= ?_)
 refine aP (sY s false hd v0 v1) Tryz.call31 [3,4] ?_
 refine gg (k:= ?_)
 refine ae (db) Tryz.call69 5 [0,1,2,3,4] [0,0,0,0,0] [] ?_
 refine gg (k:= ?_)
 refine ae (eC) Tryz.call115 (he:=⟨fun _=>⟨rfl,rfl,trivial,trivial⟩,trivial,trivial⟩) 3 [2,3,4,0,0,0,0,0,0,0,0,0,0,30,31] [0,0,0,0,0,0,0,0,0,0,0,0,0,1,1] [13,14] ?_
 refine gg (k:= ?_)
 refine ae (EZ (bK 0 l) (cV l) l.length (l.length+2+1) 3 (cP l 0).symm (by rw[cP];exact jm)) Tryz.call119 (hrows:=⟨⟨fun _=>⟨Nat.lt_succ_self 1,Nat.lt_succ_self 1,trivial,trivial⟩,rfl⟩,⟨trivial,rfl⟩,trivial⟩) (hr2:=⟨fun _=>⟨rfl,rfl,trivial,trivial⟩,trivial,trivial⟩) (he:=⟨fun _=>⟨rfl,rfl,trivial,trivial⟩,trivial⟩) 2 [30,31,0,0,0,0,0,32] [0,0,0,0,0,0,0,1] [7] ?_
 refine gg (k:= ?_)
 refine ae (EY s c c l b9 (e:Int) b 1 1 (l.length+3) 3 vb v0 v1 3) Tryz.call118 (hrows:=⟨⟨⟨trivial,trivial⟩,rfl⟩,⟨⟨(by show 4<8;decide),(by show 2<8;decide),trivial,trivial,trivial,trivial⟩,rfl⟩,⟨fun _=>⟨(by show 3<8;decide),(by show 3<8;decide),trivial,trivial⟩,rfl⟩,⟨trivial,rfl⟩,⟨⟨(by show 5<8;decide),trivial,trivial,trivial⟩,rfl⟩,⟨⟨(by show 6<8;decide),trivial,trivial,trivial,trivial,trivial,trivial⟩,rfl⟩,⟨trivial,rfl⟩,⟨fun _=>⟨(by show 3<8;decide),(by show 3<8;decide),trivial,trivial⟩,rfl⟩,trivial⟩) (hr2:=⟨⟨trivial,trivial⟩,⟨rfl,rfl,trivial,trivial,trivial,trivial⟩,fun _=>⟨rfl,rfl,trivial,trivial⟩,trivial,⟨rfl,trivial,trivial,trivial⟩,⟨rfl,trivial,trivial,trivial,trivial,trivial,trivial⟩,trivial,fun _=>⟨rfl,rfl,trivial,trivial⟩,trivial⟩) 8 [14,12,30,31,2,3,4,32] [0,0,0,0,0,0,0,0] [] ?_
 refine gg (k:= ?_)
 exact⟨_,rfl,rfl,rfl,rfl,rfl,trivial⟩
theorem mR (s : J) (c : Nat) (hd : s.dd = true) (vs va vb v0 v1 : Nat) : Spec Tryz.prog 77 [.ref 0 vs 3 0 0] [⟨vs, .obj [.ref 3 v0 6 0 0, .ref 1 va 3 0 0, .ref 2 vb 3 0 0]⟩, ⟨va, .obj [.ref 3 v0 6 0 0, .val (.int .i64 ((0 : Nat) : Int)), .val (.int .i64 (c : Int))]⟩, ⟨vb, .obj [.ref 3 v0 6 0 0, .val (.int .i64 (c : Int)), .val (.int .i64 (c : Int))]⟩, ⟨v0, .obj [.own 4 v1 1 0 s.l.length, .val (.int .i64 (s.k : Int)), .val (.int .i64 s.ar), .val (.int .i64 s.pt), .val (.bool s.dd), .val (.int .i64 s.wr)]⟩, ⟨v1, .bytes s.l⟩]
   (ak (.al [.agg [.val (.pointer none),.val (.slice none 0 0),.val (.slice none 0 0),.val (.int .i64 0),.val (.bool false)],.val (.int .i64 6)]) [⟨vs,.obj [.ref 3 v0 6 0 0,.ref 1 va 3 0 0,.ref 2 vb 3 0 0]⟩,⟨va,.obj [.ref 3 v0 6 0 0,.val (.int .i64 ((0:Nat):Int)),.val (.int .i64 (c:Int))]⟩,⟨vb,.obj [.ref 3 v0 6 0 0,.val (.int .i64 (c:Int)),.val (.int .i64 (c:Int))]⟩,⟨v0,.obj [.own 4 v1 1 0 s.l.length,.val (.int .i64 (s.k:Int)),.val (.int .i64 s.ar),.val (.int .i64 s.pt),.val (.bool s.dd),.val (.int .i64 s.wr)]⟩,⟨v1,.bytes s.l⟩] []):=by
 refine aq aj Tryz.func77 rfl Tryz.ntmps77 Tryz.results77 ?_
 refine gg (k:= ?_)
 refine aP (sY s true hd v0 v1) Tryz.call31 [3,4] ?_
 refine gg (k:= ?_)
 exact⟨_,rfl,rfl,trivial⟩
theorem vN : Spec Tryz.prog 77 [.val (.pointer none)] []
   (ak (.al [.agg [.val (.pointer none),.val (.slice none 0 0),.val (.slice none 0 0),.val (.int .i64 0),.val (.bool false)],.val (.int .i64 2)]) [] []):=by
 refine aq aj Tryz.func77 rfl Tryz.ntmps77 Tryz.results77 ?_
 refine gg (k:= ?_)
 exact⟨_,rfl,rfl,trivial⟩
end Go.Proofs.YtpbpiehcchannaaGreatDoor
