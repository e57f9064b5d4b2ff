/- A variable that is there, frozen; names compared. lintellaw21: ahead; what Next tells of any name. A book beside the document's map: the plain law. Conditions: the premises of each law. -/
import Derived.Test.YtpbpiehcchannaaGreatDoorJKqh
import Derived.Test.YtpbpiehcchannaaGreatDoorJHf
namespace Go.Proofs.YtpbpiehcchannaaGreatDoor
set_option linter.unusedVariables false
set_option linter.unusedSimpArgs false
set_option maxRecDepth 100000
set_option maxHeartbeats 3000000
open Go.RowKit
theorem JG{mk:List (Nat×J)}{x y:AV}(h:AF mk x y)(v:aU):aZ mk (aV x v) (aV y v):=by
 unfold aV
 repeat (first | exact aZ.nil | refine aZ.cons AF.same ?_)
 exact aZ.cons h aZ.nil
theorem Sk {W : Int} {n k : Nat} (s : U) (c : Nat) {M : List RK} (m : LK s c M) (go : aw W n k s) (pa : aA n k 0 c) (pb : aA n k c c) (v : aU) (hv : gq v) (hm : gE v ∈ M) (vk vs va vb v0 v1 : Nat) : Spec Tryz.prog 44 [.ref 0 vk 1 0 0, .val (.string v.nm), .agg (bC 16 v.g)] [⟨vk, .obj [.ref 1 vs 3 0 0]⟩, ⟨vs, .obj [.ref 4 v0 6 0 0, .ref 2 va 3 0 0, .ref 3 vb 3 0 0]⟩, ⟨va, .obj [.ref 4 v0 6 0 0, .val (.int .i64 ((0 : Nat) : Int)), .val (.int .i64 (c : Int))]⟩, ⟨vb, .obj [.ref 4 v0 6 0 0, .val (.int .i64 (c : Int)), .val (.int .i64 (c : Int))]⟩, ⟨v0, .obj [.own 5 v1 1 0 s.l.length, .val (.int .i64 (s.k : Int)), .val (.int .i64 s.ar), .val (.int .i64 s.pt), .val (.bool s.dd), .val (.int .i64 s.wr)]⟩, ⟨v1, .bytes s.l⟩]
   (ak (.aD [.agg (aV (.bs 0 v.d) v),.val (.bool true),.val (.int .i64 0)]) [⟨vk,.obj [.ref 1 vs 3 0 0]⟩,⟨vs,.obj [.ref 4 v0 6 0 0,.ref 2 va 3 0 0,.ref 3 vb 3 0 0]⟩,⟨va,.obj [.ref 4 v0 6 0 0,.val (.int .i64 ((0:Nat):Int)),.val (.int .i64 (c:Int))]⟩,⟨vb,.obj [.ref 4 v0 6 0 0,.val (.int .i64 (c:Int)),.val (.int .i64 (c:Int))]⟩,⟨v0,.obj [.own 5 v1 1 0 s.l.length,.val (.int .i64 (s.k:Int)),.val (.int .i64 s.ar),.val (.int .i64 s.pt),.val (.bool s.dd),.val (.int .i64 s.wr)]⟩,⟨v1,.bytes s.l⟩] []):=
 ix (Dv s c m go pa pb v hv.ok hv.r hv.t (by have:=hv.d;omega) hm vk vs va vb v0 v1) (by simp[eM]) (AF.aD (aZ.cons (AF.agg (JG (AF.own rfl rfl) v)) (aZ.cons AF.same (aZ.cons AF.same aZ.nil)))) ⟨rfl,BF.same,rfl,BF.same,rfl,BF.same,rfl,BF.same,rfl,BF.same,rfl,BF.same,trivial⟩
theorem DI{mk:List (Nat×J)}{x y:AV}(h:AF mk x y)(u:aU)(n:Int)(is:Bool)(e:Int):aZ mk (fC x u n is e) (fC y u n is e):=by
 unfold fC aV
 simp only[List.cons_append,List.nil_append]
 repeat (first | exact aZ.nil | refine aZ.cons AF.same ?_ | refine aZ.cons h ?_)
theorem oC{P:Nat→Prop}(l:List UInt8)(u:aU)(n:Int)(is:Bool)(e:Int):cR P (fC (.bs 0 l) u n is e):=by
 unfold fC aV
 simp only[List.cons_append,List.nil_append]
 repeat (first | exact trivial | refine And.intro trivial ?_)
theorem Sw(a b:ByteArray)(g h:List UInt8)(hg:g.length=16)(hh:h.length=16):(decide (a.data.toList=b.data.toList)&&eK ((List.range 16).map fun i=>bv (g.getD i 0)) ((List.range 16).map fun i=>bv (h.getD i 0)))=decide (a=b∧g=h):=by
 rw[rn g 16 hg,rn h 16 hh,yM,Bool.eq_iff_iff]
 simp only[Bool.and_eq_true,decide_eq_true_eq]
 exact⟨fun q=>⟨by rw[←lQ a,q.1,lQ],q.2⟩,fun q=>⟨by rw[q.1],q.2⟩⟩
theorem JT (beh : List UInt8) : ∀ {V : List aU}, (∀ v ∈ V, gq v) →
    (∃j,j<V.length∧eJ (V.map kV) beh= .aD [.val (.string (V.getD j aK).nm),.agg (bC 16 (V.getD j aK).g),.val (.int .i64 0)]∧aS beh (kV (V.getD j aK))=true∧∀i,i<j→aS beh (kV (V.getD i aK))=false)
    ∨(eJ (V.map kV) beh= .aD [.val (.string ByteArray.empty),.agg (bC 16 []),.val (.int .i64 3)]∧∀i,i<V.length→aS beh (kV (V.getD i aK))=false)
 | [],_=> .inr ⟨rfl,fun i h=>by simp at h⟩
 | v::V,hV=>by
  have hv:=hV v (List.mem_cons_self ..)
  have hN:eR ((v::V).map kV) beh=if aS beh (kV v)=true then some (kV v) else eR (V.map kV) beh:=by
   unfold eR
   rw[List.map_cons,List.find?_cons,tn hv,Bool.and_true]
   cases aS beh (kV v)<;>rfl
  cases h:aS beh (kV v) with
  | true=>
   left
   refine⟨0,Nat.succ_pos _,?_,h,fun i hi=>absurd hi (Nat.not_lt_zero _)⟩
   unfold eJ
   rw[hN,if_pos h]
   simp only[List.getD_cons_zero]
   unfold kV aO
   rw[List.drop_left' hv.ok.g,List.take_left' hv.ok.g,lQ]
  | false=>
   have hA:eJ ((v::V).map kV) beh=eJ (V.map kV) beh:=by
    unfold eJ
    rw[hN,if_neg (by rw[h];simp)]
   rw[hA]
   rcases JT beh (V:=V) fun u hu=>hV u (List.mem_cons_of_mem _ hu) with⟨j,h1,h2,h3,h4⟩ | ⟨h1,h2⟩
   ·refine .inl ⟨j+1,Nat.succ_lt_succ h1,h2,h3,fun i hi=> ?_⟩
    cases i with
    | zero=>exact h
    | succ i=>exact h4 i (Nat.lt_of_succ_lt_succ hi)
   ·refine .inr ⟨h1,fun i hi=> ?_⟩
    cases i with
    | zero=>exact h
    | succ i=>exact h2 i (Nat.lt_of_succ_lt_succ hi)
structure BR(s:U)(y i:Nat)(R:List RK):Prop where
 sm:SM s 1 y i R
 rc:∀r∈R,eC r
theorem BR.lk{s:U}{y i:Nat}{R:List RK}(h:BR s y i R):∃M,LK s 1 M∧RM M R:=by
 obtain⟨G,M,h1,h2,_⟩:=h.sm.ex
 exact⟨M,h1.lk,h2⟩
theorem BR.live{s:U}{y i:Nat}{R:List RK}(h:BR s y i R):s.dd=false:=by
 obtain⟨M,h1,_⟩:=h.lk
 exact h1.live
theorem BR.go{s:U}{y i:Nat}{R:List RK}(h:BR s y i R):aw (1000+i*300000000000) (2*y) y s:=h.sm.go
theorem BR.mono{s:U}{y i j:Nat}{R:List RK}(h:BR s y i R)(lS:i≤j):BR s y j R:=⟨h.sm.mono lS,h.rc⟩
def bR(y:Nat):Int:=((1*y - 16:Nat):Int)
def gW(R:List RK)(room:Int)(v:aU):Int×List RK:=if fA v=true then(fh R room (aO v.nm v.g) (bh v),eP R room (aO v.nm v.g) (bh v)) else(1,R)
theorem JU{R:List RK}{room:Int}{key val:List UInt8}{r:RK}(h:r∈eP R room key val):r∈R∨r=⟨key,val,true⟩:=by
 unfold eP at h
 split at h
 ·unfold ou at h
  rcases List.mem_append.1 ((sZ _ _).mem_iff.1 h) with q | q
  ·exact .inl (List.mem_filter.1 q).1
  ·exact .inr (List.mem_singleton.1 q)
 ·exact .inl h
theorem BR.y6 {s : U} {y i : Nat} {R : List RK} (h : BR s y i R) (hy : 128 ≤ y ∧ y ≤ 2175) (hi : i ≤ 1000) {key val : List UInt8} (hr : eC ⟨key, val, true⟩) :
    (s.set 1 key val).1=fh R (bR y) key val∧BR (s.set 1 key val).2 y (i+1) (eP R (bR y) key val):=by
 have e2:2*1*y=2*y:=by omega
 obtain⟨a,b,_⟩:=h.sm.set (by omega) (by omega) (by rw[e2];exact tg hy) (by rw[e2];exact tj hy) key val
 refine⟨a,b,fun r hm=> ?_⟩
 rcases JU hm with q | q
 ·exact h.rc r q
 ·rw[q];exact hr
theorem BR.put {s : U} {y i : Nat} {R : List RK} (h : BR s y i R) (hy : 128 ≤ y ∧ y ≤ 2175) (hi : i ≤ 1000) (v : aU) (hv : v.Ok) :
    (dq s v).1=(gW R (bR y) v).1∧BR (dq s v).2 y (i+1) (gW R (bR y) v).2:=by
 unfold dq gW
 cases hP:fA v with
 | false=>exact⟨rfl,h.mono (Nat.le_succ i)⟩
 | true=>
  simp only[if_true]
  exact h.y6 hy hi (.inl ⟨v,yP hv hP,rfl⟩)
def jO(R:List RK)(nm:ByteArray)(g:List UInt8):Int×List RK:=if bM nm=true then(ov R (aO nm g),eO R (aO nm g)) else(1,R)
theorem BR.drop {s : U} {y i : Nat} {R : List RK} (h : BR s y i R) (nm : ByteArray) (g : List UInt8) :
    (fK s nm g).1=(jO R nm g).1∧BR (fK s nm g).2 y (i+1) (jO R nm g).2:=by
 unfold fK jO
 cases hP:bM nm with
 | false=>exact⟨rfl,h.mono (Nat.le_succ i)⟩
 | true=>
  simp only[if_true]
  obtain⟨a,b,_⟩:=h.sm.del (aO nm g)
  exact⟨a,b,fun r hm=>h.rc r (List.mem_filter.1 hm).1⟩
theorem JK:cC bQ=false:=rfl
structure VR(R:List RK)(V:List aU):Prop where
 eq:R.filter (fun r=>cC r.key)=V.map gE
 ok:∀v∈V,gq v
theorem VR.of:∀{R:List RK},(∀r∈R,eC r)→∃V,VR R V
 | [],_=>⟨[],rfl,by simp⟩
 | r::R,h=>by
  obtain⟨V,h1,h2⟩:=VR.of (R:=R) fun x hx=>h x (List.mem_cons_of_mem _ hx)
  rcases h r (List.mem_cons_self ..) with⟨v,hv,rfl⟩ | ⟨x,rfl⟩
  ·refine⟨v::V,?_,fun u hu=> ?_⟩
   ·rw[List.filter_cons_of_pos (by exact tn hv),h1,List.map_cons]
   ·rcases List.mem_cons.1 hu with rfl | hu
    ·exact hv
    ·exact h2 u hu
  ·exact⟨V,by rw[List.filter_cons_of_neg (by simp[JK]),h1],h2⟩
theorem VR.mem{R:List RK}{V:List aU}(h:VR R V){v:aU}(hv:v∈V):gE v∈R:=by
 have:gE v∈R.filter (fun r=>cC r.key):=by rw[h.eq];exact List.mem_map.2 ⟨v,hv,rfl⟩
 exact(List.mem_filter.1 this).1
theorem VR.len{R:List RK}{V:List aU}(h:VR R V):V.length≤R.length:=by
 have h1:=congrArg List.length h.eq
 have h2:=List.length_filter_le (fun r:RK=>cC r.key) R
 rw[List.length_map] at h1
 omega
theorem VR.st{R:List RK}{V:List aU}(h:VR R V)(hs:cP R):(V.map kV).Pairwise fun x y=>aS x y=true:=by
 have h1:(V.map gE).Pairwise fun x y:RK=>aS x.key y.key=true:=by
  rw[←h.eq]
  exact List.Pairwise.sublist List.filter_sublist hs
 rw[List.pairwise_map] at h1⊢
 exact h1
theorem JV(beh:List UInt8):∀ks:List (List UInt8),eR ks beh=eR (ks.filter cC) beh
 | []=>rfl
 | k::ks=>by
  have ih:=JV beh ks
  unfold eR at ih⊢
  cases hk:cC k with
  | true=>
   rw[List.filter_cons_of_pos hk,List.find?_cons,List.find?_cons,hk]
   cases aS beh k
   ·exact ih
   ·rfl
  | false=>
   rw[List.filter_cons_of_neg (by rw[hk];simp),List.find?_cons,hk,Bool.and_false]
   exact ih
theorem VR.next{R:List RK}{V:List aU}(h:VR R V)(beh:List UInt8):eR (av R) beh=eR (V.map kV) beh:=by
 rw[JV]
 have e:(av R).filter cC=V.map kV:=by
  have h1:=congrArg (List.map fun r:RK=>r.key) h.eq
  rw[List.map_map] at h1
  unfold av
  rw[List.filter_map]
  exact h1
 rw[e]
theorem VR.eJ{R:List RK}{V:List aU}(h:VR R V)(beh:List UInt8):Go.Proofs.YtpbpiehcchannaaGreatDoor.eJ (av R) beh=Go.Proofs.YtpbpiehcchannaaGreatDoor.eJ (V.map kV) beh:=by
 unfold Go.Proofs.YtpbpiehcchannaaGreatDoor.eJ
 rw[h.next]
theorem eC.var{R:List RK}(h:∀r∈R,eC r){nm:ByteArray}{g:List UInt8}(hg:g.length=16){r:RK}(hr:r∈R)(e:r.key=aO nm g):∃v,gq v∧r=gE v∧v.nm=nm∧v.g=g:=by
 rcases h r hr with⟨v,hv,rfl⟩ | ⟨x,rfl⟩
 ·obtain⟨e1,e2⟩:=DJ hv.ok.g hg e
  exact⟨v,hv,rfl,e1,e2⟩
 ·have:=congrArg List.length e
  unfold aO at this
  rw[List.length_append,hg] at this
  have h4:bQ.length=4:=rfl
  simp only at this
  omega
theorem eC.mark{R:List RK}(h:∀r∈R,eC r){r:RK}(hr:r∈R)(e:r.key=bQ):∃x,r=⟨bQ,[x],true⟩:=by
 rcases h r hr with⟨v,hv,rfl⟩ | ⟨x,rfl⟩
 ·exact absurd e (SQ hv)
 ·exact⟨x,rfl⟩
theorem eC.yV{r:RK}(h:eC r):fJ r:=by
 rcases h with⟨v,hv,rfl⟩ | ⟨x,rfl⟩
 ·refine⟨DA hv,?_⟩
  show(bh v).length≤65536
  rw[te hv.ok]
  have:=hv.d
  omega
 ·exact⟨⟨by show 1≤bQ.length;decide,by show bQ.length≤255;decide⟩,by show(1:Nat)≤65536;decide⟩
theorem cP.one{R:List RK}(h:cP R){a b:RK}(ha:a∈R)(hb:b∈R)(e:a.key=b.key):a=b:=by
 obtain⟨i,hi,rfl⟩:=List.getElem_of_mem ha
 obtain⟨j,hj,rfl⟩:=List.getElem_of_mem hb
 have hp:=List.pairwise_iff_getElem.1 h
 rcases Nat.lt_trichotomy i j with q | q | q
 ·have:=hp i j hi hj q
  rw[e,lR] at this;cases this
 ·subst q;rfl
 ·have:=hp j i hj hi q
  rw[e,lR] at this;cases this
theorem cP.ext:∀{R R':List RK},cP R→cP R'→(∀r,r∈R↔r∈R')→R=R'
 | [],[],_,_,_=>rfl
 | [],b::R',_,_,h=>by have:=(h b).2 (List.mem_cons_self ..);cases this
 | a::R,[],_,_,h=>by have:=(h a).1 (List.mem_cons_self ..);cases this
 | a::R,b::R',h1,h2,h=>by
  have oq:=h1;have iT:=h2
  unfold cP at oq iT
  rw[List.pairwise_cons] at oq iT
  have uZ:a=b:=by
   rcases List.mem_cons.1 ((h a).1 (List.mem_cons_self ..)) with q | q
   ·exact q
   rcases List.mem_cons.1 ((h b).2 (List.mem_cons_self ..)) with p | p
   ·exact p.symm
   have e1:=iT.1 a q
   have e2:=oq.1 b p
   rw[s7 e1] at e2;cases e2
  subst uZ
  have:R=R':=cP.ext oq.2 iT.2 fun r=>by
   constructor
   ·intro hr
    rcases List.mem_cons.1 ((h r).1 (List.mem_cons_of_mem _ hr)) with q | q
    ·subst q;have:=oq.1 r hr;rw[lR] at this;cases this
    ·exact q
   ·intro hr
    rcases List.mem_cons.1 ((h r).2 (List.mem_cons_of_mem _ hr)) with q | q
    ·subst q;have:=iT.1 r hr;rw[lR] at this;cases this
    ·exact q
  rw[this]
inductive gF (R:List RK):UInt8→Prop
 | yes (x:UInt8) (h:(⟨bQ,[x],true⟩:RK)∈R):gF R x
 | no (h:∀r∈R,r.key≠bQ):gF R 0
theorem gF.of{R:List RK}(h:∀r∈R,eC r):∃x,gF R x:=by
 by_cases q:∃r∈R,r.key=bQ
 ·obtain⟨r,hr,e⟩:=q
  obtain⟨x,rfl⟩:=eC.mark h hr e
  exact⟨x,.yes x hr⟩
 ·exact⟨0,.no fun r hr e=>q ⟨r,hr,e⟩⟩
theorem DK:∀R:List RK,aP R=aP (R.filter fun r=>cC r.key)+aP (R.filter fun r=> !cC r.key)
 | []=>rfl
 | r::R=>by
  have ih:=DK R
  cases h:cC r.key with
  | true=>rw[List.filter_cons_of_pos (by exact h),List.filter_cons_of_neg (by simp[h])];simp only[aP,ih];omega
  | false=>rw[List.filter_cons_of_neg (by simp[h]),List.filter_cons_of_pos (by simp[h])];simp only[aP,ih];omega
theorem gF.rest{R:List RK}(h:∀r∈R,eC r)(hs:cP R):(∃x,(⟨bQ,[x],true⟩:RK)∈R∧aP (R.filter fun r=> !cC r.key)=17)∨((∀r∈R,r.key≠bQ)∧aP (R.filter fun r=> !cC r.key)=0):=by
 have hf:∀r∈R.filter (fun r=> !cC r.key),r.key=bQ:=by
  intro r hr
  obtain⟨h1,h2⟩:=List.mem_filter.1 hr
  rcases h r h1 with⟨v,hv,rfl⟩ | ⟨x,rfl⟩
  ·rw[show cC (gE v).key=true from tn hv] at h2;cases h2
  ·rfl
 by_cases q:∃r∈R,r.key=bQ
 ·obtain⟨r,hr,e⟩:=q
  obtain⟨x,rfl⟩:=eC.mark h hr e
  refine .inl ⟨x,hr,?_⟩
  have hm:(⟨bQ,[x],true⟩:RK)∈R.filter (fun r=> !cC r.key):=List.mem_filter.2 ⟨hr,rfl⟩
  have iN:cP (R.filter (fun r=> !cC r.key)):=List.Pairwise.sublist List.filter_sublist hs
  generalize R.filter (fun r=> !cC r.key)=F at hf hm iN
  match F,hf,hm,iN with
  | [],_,hm,_=>cases hm
  | [a],_,hm,_=>rw[List.mem_singleton] at hm;subst hm;rfl
  | a::b::F,hf,_,iN=>
   have e1:=hf a (List.mem_cons_self ..)
   have e2:=hf b (List.mem_cons_of_mem _ (List.mem_cons_self ..))
   unfold cP at iN
   rw[List.pairwise_cons] at iN
   have:=iN.1 b (List.mem_cons_self ..)
   rw[e1,e2,lR] at this;cases this
 ·refine .inr ⟨fun r hr e=>q ⟨r,hr,e⟩,?_⟩
  have:R.filter (fun r=> !cC r.key)=[]:=by
   cases hF:R.filter (fun r=> !cC r.key) with
   | nil=>rfl
   | cons a F=>
    rw[hF] at hf
    have ha:a∈R.filter (fun r=> !cC r.key):=by rw[hF];exact List.mem_cons_self ..
    exact absurd ⟨a,(List.mem_filter.1 ha).1,hf a (List.mem_cons_self ..)⟩ q
  rw[this];rfl
theorem map_eq{R R':List RK}{V:List aU}{x:UInt8}(h:∀r∈R,eC r)(h':∀r∈R',eC r)(hs:cP R)(iN:cP R')(hV:VR R V)(mJ:VR R' V)(hm:gF R x)(fu:gF R' x)(hu:aP R=aP R'):R=R':=by
 have e1:=DK R
 have e2:=DK R'
 rw[hV.eq] at e1
 rw[mJ.eq] at e2
 have key:∀{A B:List RK},(∀r∈A,eC r)→(∀r∈B,eC r)→cP A→cP B→VR A V→VR B V→gF A x→gF B x→aP (A.filter fun r=> !cC r.key)=aP (B.filter fun r=> !cC r.key)→∀r∈A,r∈B:=by
  intro A B hA hB sA sB vA vB mA mB hu r hr
  rcases hA r hr with⟨v,hv,rfl⟩ | ⟨z,rfl⟩
  ·have:gE v∈A.filter (fun r=>cC r.key):=List.mem_filter.2 ⟨hr,tn hv⟩
   rw[vA.eq] at this
   obtain⟨u,zE,lq⟩:=List.mem_map.1 this
   rw[←lq];exact vB.mem zE
  ·have SU:z=x:=by
     cases mA with
     | yes x q=>have:=sA.one hr q rfl;injection this with _ e _;injection e
     | no q=>exact absurd rfl (q _ hr)
   rcases gF.rest hA sA with⟨a,a1,a2⟩ | ⟨a1,a2⟩
   ·rcases gF.rest hB sB with⟨b,b1,b2⟩ | ⟨b1,b2⟩
    ·have SV:b=x:=by
       cases mB with
       | yes x q=>have:=sB.one b1 q rfl;injection this with _ e _;injection e
       | no q=>exact absurd rfl (q _ b1)
     rw[SU,←SV];exact b1
    ·rw[a2,b2] at hu;cases hu
   ·exact absurd rfl (a1 _ hr)
 exact cP.ext hs iN fun r=>⟨key h h' hs iN hV mJ hm fu (by omega) r,key h' h iN hs mJ hV fu hm (by omega) r⟩
end Go.Proofs.YtpbpiehcchannaaGreatDoor
