/- A variable that is there, frozen; names compared. lintellaw21: ahead; what Next tells of any name. A book beside the document's map: the plain law. Conditions: the premises of each law. -/
import Derived.Test.YtpbpiehcchannaaGreatDoorJKqh
import Derived.Test.YtpbpiehcchannaaGreatDoorJKo2
import Derived.Test.YtpbpiehcchannaaGreatDoorJHf
namespace Go.Proofs.YtpbpiehcchannaaGreatDoor
open Go.RowKit
set_option linter.unusedVariables false
set_option linter.unusedSimpArgs false
set_option maxRecDepth 100000
set_option maxHeartbeats 3000000
theorem varA_AFL{mk:List (Nat×Ent)}{x y:AV}(h:AF mk x y)(v:VarV):AFL mk (varA x v) (varA y v):=by
 unfold varA
 repeat (first | exact AFL.nil | refine AFL.cons AF.same ?_)
 exact AFL.cons h AFL.nil
theorem kget_z {W : Int} {n k : Nat} (s : FlS) (c : Nat) {M : List RK} (m : LK s c M) (go : Goes W n k s) (pa : Lies n k 0 c) (pb : Lies n k c c) (v : VarV) (hv : VOk v) (hm : rcdV v ∈ M) (vk vs va vb v0 v1 : Nat) : Spec Tryz.prog 44 [.ref 0 vk 1 0 0, .val (.string v.nm), .agg (bytesA 16 v.g)] [⟨vk, .obj [.ref 1 vs 3 0 0]⟩, ⟨vs, .obj [.ref 4 v0 6 0 0, .ref 2 va 3 0 0, .ref 3 vb 3 0 0]⟩, ⟨va, .obj [.ref 4 v0 6 0 0, .val (.int .i64 ((0 : Nat) : Int)), .val (.int .i64 (c : Int))]⟩, ⟨vb, .obj [.ref 4 v0 6 0 0, .val (.int .i64 (c : Int)), .val (.int .i64 (c : Int))]⟩, ⟨v0, .obj [.own 5 v1 1 0 s.l.length, .val (.int .i64 (s.k : Int)), .val (.int .i64 s.ar), .val (.int .i64 s.pt), .val (.bool s.dd), .val (.int .i64 s.wr)]⟩, ⟨v1, .bytes s.l⟩]
   (pms (.tup [.agg (varA (.bs 0 v.d) v),.val (.bool true),.val (.int .i64 0)]) [⟨vk,.obj [.ref 1 vs 3 0 0]⟩,⟨vs,.obj [.ref 4 v0 6 0 0,.ref 2 va 3 0 0,.ref 3 vb 3 0 0]⟩,⟨va,.obj [.ref 4 v0 6 0 0,.val (.int .i64 ((0:Nat):Int)),.val (.int .i64 (c:Int))]⟩,⟨vb,.obj [.ref 4 v0 6 0 0,.val (.int .i64 (c:Int)),.val (.int .i64 (c:Int))]⟩,⟨v0,.obj [.own 5 v1 1 0 s.l.length,.val (.int .i64 (s.k:Int)),.val (.int .i64 s.ar),.val (.int .i64 s.pt),.val (.bool s.dd),.val (.int .i64 s.wr)]⟩,⟨v1,.bytes s.l⟩] []):=
 spec_frz (kget_in s c m go pa pb v hv.ok hv.r hv.t (by have:=hv.d;omega) hm vk vs va vb v0 v1) (by simp[geM]) (AF.tup (AFL.cons (AF.agg (varA_AFL (AF.own rfl rfl) v)) (AFL.cons AF.same (AFL.cons AF.same AFL.nil)))) ⟨rfl,BF.same,rfl,BF.same,rfl,BF.same,rfl,BF.same,rfl,BF.same,rfl,BF.same,trivial⟩
theorem toldA_AFL{mk:List (Nat×Ent)}{x y:AV}(h:AF mk x y)(u:VarV)(n:Int)(is:Bool)(e:Int):AFL mk (toldA x u n is e) (toldA y u n is e):=by
 unfold toldA varA
 simp only[List.cons_append,List.nil_append]
 repeat (first | exact AFL.nil | refine AFL.cons AF.same ?_ | refine AFL.cons h ?_)
theorem toldA_on{P:Nat→Prop}(l:List UInt8)(u:VarV)(n:Int)(is:Bool)(e:Int):onAs P (toldA (.bs 0 l) u n is e):=by
 unfold toldA varA
 simp only[List.cons_append,List.nil_append]
 repeat (first | exact trivial | refine And.intro trivial ?_)
theorem ng_eq(a b:ByteArray)(g h:List UInt8)(hg:g.length=16)(hh:h.length=16):(decide (a.data.toList=b.data.toList)&&eqVs ((List.range 16).map fun i=>bv (g.getD i 0)) ((List.range 16).map fun i=>bv (h.getD i 0)))=decide (a=b∧g=h):=by
 rw[range_getD g 16 hg,range_getD h 16 hh,eqVs_bytes,Bool.eq_iff_iff]
 simp only[Bool.and_eq_true,decide_eq_true_eq]
 exact⟨fun q=>⟨by rw[←strOf_toList a,q.1,strOf_toList],q.2⟩,fun q=>⟨by rw[q.1],q.2⟩⟩
end Go.Proofs.YtpbpiehcchannaaGreatDoor
namespace Go.Proofs.YtpbpiehcchannaaGreatDoor
open Go.RowKit
set_option linter.unusedVariables false
set_option linter.unusedSimpArgs false
set_option maxRecDepth 100000
set_option maxHeartbeats 1500000
theorem nextA_first (beh : List UInt8) : ∀ {V : List VarV}, (∀ v ∈ V, VOk v) →
    (∃j,j<V.length∧nextA (V.map kV) beh= .tup [.val (.string (V.getD j varZ).nm),.agg (bytesA 16 (V.getD j varZ).g),.val (.int .i64 0)]∧ltB beh (kV (V.getD j varZ))=true∧∀i,i<j→ltB beh (kV (V.getD i varZ))=false)
    ∨(nextA (V.map kV) beh= .tup [.val (.string ByteArray.empty),.agg (bytesA 16 []),.val (.int .i64 3)]∧∀i,i<V.length→ltB beh (kV (V.getD i varZ))=false)
 | [],_=> .inr ⟨rfl,fun i h=>by simp at h⟩
 | v::V,hV=>by
  have hv:=hV v (List.mem_cons_self ..)
  have hN:nextK ((v::V).map kV) beh=if ltB beh (kV v)=true then some (kV v) else nextK (V.map kV) beh:=by
   unfold nextK
   rw[List.map_cons,List.find?_cons,kV_vk hv,Bool.and_true]
   cases ltB beh (kV v)<;>rfl
  cases h:ltB beh (kV v) with
  | true=>
   left
   refine⟨0,Nat.succ_pos _,?_,h,fun i hi=>absurd hi (Nat.not_lt_zero _)⟩
   unfold nextA
   rw[hN,if_pos h]
   simp only[List.getD_cons_zero]
   unfold kV keyV
   rw[List.drop_left' hv.ok.g,List.take_left' hv.ok.g,strOf_toList]
  | false=>
   have hA:nextA ((v::V).map kV) beh=nextA (V.map kV) beh:=by
    unfold nextA
    rw[hN,if_neg (by rw[h];simp)]
   rw[hA]
   rcases nextA_first beh (V:=V) fun u hu=>hV u (List.mem_cons_of_mem _ hu) with⟨j,h1,h2,h3,h4⟩ | ⟨h1,h2⟩
   ·refine .inl ⟨j+1,Nat.succ_lt_succ h1,h2,h3,fun i hi=> ?_⟩
    cases i with
    | zero=>exact h
    | succ i=>exact h4 i (Nat.lt_of_succ_lt_succ hi)
   ·refine .inr ⟨h1,fun i hi=> ?_⟩
    cases i with
    | zero=>exact h
    | succ i=>exact h2 i (Nat.lt_of_succ_lt_succ hi)
theorem VS.there{M:List RK}{V:List VarV}(hS:VS M V){nm:ByteArray}{g:List UInt8}(hg:g.length=16):(∃v∈V,v.nm=nm∧v.g=g)↔∃r∈M,r.key=keyV nm g:=by
 constructor
 ·rintro⟨v,hv,rfl,rfl⟩
  exact⟨_,(hS.ok v hv).2,rfl⟩
 ·rintro⟨r,hr,e⟩
  have hk:r.key∈srtK (M.map fun r=>r.key):=(List.mergeSort_perm _ _).mem_iff.2 (List.mem_map.2 ⟨r,hr,rfl⟩)
  rw[hS.ks] at hk
  obtain⟨v,hv,hke⟩:=List.mem_map.1 hk
  obtain⟨e1,e2⟩:=keyV_inj (hS.ok v hv).1.ok.g hg (hke.trans e)
  exact⟨v,hv,e1,e2⟩
end Go.Proofs.YtpbpiehcchannaaGreatDoor
namespace Go.Proofs.YtpbpiehcchannaaGreatDoor
open Go.RowKit
set_option linter.unusedVariables false
set_option linter.unusedSimpArgs false
structure BR(s:FlS)(y i:Nat)(R:List RK):Prop where
 sm:SM s 1 y i R
 rc:∀r∈R,RecB r
theorem BR.lk{s:FlS}{y i:Nat}{R:List RK}(h:BR s y i R):∃M,LK s 1 M∧RM M R:=by
 obtain⟨G,M,h1,h2,_⟩:=h.sm.ex
 exact⟨M,h1.lk,h2⟩
theorem BR.live{s:FlS}{y i:Nat}{R:List RK}(h:BR s y i R):s.dd=false:=by
 obtain⟨M,h1,_⟩:=h.lk
 exact h1.live
theorem BR.go{s:FlS}{y i:Nat}{R:List RK}(h:BR s y i R):Goes (1000+i*300000000000) (2*y) y s:=h.sm.go
theorem BR.mono{s:FlS}{y i j:Nat}{R:List RK}(h:BR s y i R)(hij:i≤j):BR s y j R:=⟨h.sm.mono hij,h.rc⟩
def roomY(y:Nat):Int:=((1*y - 16:Nat):Int)
def rputP(R:List RK)(room:Int)(v:VarV):Int×List RK:=if putOk v=true then(setE R room (keyV v.nm v.g) (laidV v),setW R room (keyV v.nm v.g) (laidV v)) else(1,R)
theorem setW_mem{R:List RK}{room:Int}{key val:List UInt8}{r:RK}(h:r∈setW R room key val):r∈R∨r=⟨key,val,true⟩:=by
 unfold setW at h
 split at h
 ·unfold setR at h
  rcases List.mem_append.1 ((insR_perm _ _).mem_iff.1 h) with q | q
  ·exact .inl (List.mem_filter.1 q).1
  ·exact .inr (List.mem_singleton.1 q)
 ·exact .inl h
theorem BR.setA {s : FlS} {y i : Nat} {R : List RK} (h : BR s y i R) (hy : 128 ≤ y ∧ y ≤ 2175) (hi : i ≤ 1000) {key val : List UInt8} (hr : RecB ⟨key, val, true⟩) :
    (s.set 1 key val).1=setE R (roomY y) key val∧BR (s.set 1 key val).2 y (i+1) (setW R (roomY y) key val):=by
 have e2:2*1*y=2*y:=by omega
 obtain⟨a,b,_⟩:=h.sm.set (by omega) (by omega) (by rw[e2];exact lie0 hy) (by rw[e2];exact lie1 hy) key val
 refine⟨a,b,fun r hm=> ?_⟩
 rcases setW_mem hm with q | q
 ·exact h.rc r q
 ·rw[q];exact hr
theorem BR.put {s : FlS} {y i : Nat} {R : List RK} (h : BR s y i R) (hy : 128 ≤ y ∧ y ≤ 2175) (hi : i ≤ 1000) (v : VarV) (hv : v.Ok) :
    (kputP s v).1=(rputP R (roomY y) v).1∧BR (kputP s v).2 y (i+1) (rputP R (roomY y) v).2:=by
 unfold kputP rputP
 cases hP:putOk v with
 | false=>exact⟨rfl,h.mono (Nat.le_succ i)⟩
 | true=>
  simp only[if_true]
  exact h.setA hy hi (.inl ⟨v,putOk_VOk hv hP,rfl⟩)
def rdropP(R:List RK)(nm:ByteArray)(g:List UInt8):Int×List RK:=if rightN nm=true then(delE R (keyV nm g),delR R (keyV nm g)) else(1,R)
theorem BR.drop {s : FlS} {y i : Nat} {R : List RK} (h : BR s y i R) (nm : ByteArray) (g : List UInt8) :
    (kdropP s nm g).1=(rdropP R nm g).1∧BR (kdropP s nm g).2 y (i+1) (rdropP R nm g).2:=by
 unfold kdropP rdropP
 cases hP:rightN nm with
 | false=>exact⟨rfl,h.mono (Nat.le_succ i)⟩
 | true=>
  simp only[if_true]
  obtain⟨a,b,_⟩:=h.sm.del (keyV nm g)
  exact⟨a,b,fun r hm=>h.rc r (List.mem_filter.1 hm).1⟩
/-! the variables of a map -/
theorem mark_vk:isVK markK=false:=rfl
structure VR(R:List RK)(V:List VarV):Prop where
 eq:R.filter (fun r=>isVK r.key)=V.map rcdV
 ok:∀v∈V,VOk v
theorem VR.of:∀{R:List RK},(∀r∈R,RecB r)→∃V,VR R V
 | [],_=>⟨[],rfl,by simp⟩
 | r::R,h=>by
  obtain⟨V,h1,h2⟩:=VR.of (R:=R) fun x hx=>h x (List.mem_cons_of_mem _ hx)
  rcases h r (List.mem_cons_self ..) with⟨v,hv,rfl⟩ | ⟨x,rfl⟩
  ·refine⟨v::V,?_,fun u hu=> ?_⟩
   ·rw[List.filter_cons_of_pos (by exact kV_vk hv),h1,List.map_cons]
   ·rcases List.mem_cons.1 hu with rfl | hu
    ·exact hv
    ·exact h2 u hu
  ·exact⟨V,by rw[List.filter_cons_of_neg (by simp[mark_vk]),h1],h2⟩
theorem VR.mem{R:List RK}{V:List VarV}(h:VR R V){v:VarV}(hv:v∈V):rcdV v∈R:=by
 have:rcdV v∈R.filter (fun r=>isVK r.key):=by rw[h.eq];exact List.mem_map.2 ⟨v,hv,rfl⟩
 exact(List.mem_filter.1 this).1
theorem VR.len{R:List RK}{V:List VarV}(h:VR R V):V.length≤R.length:=by
 have h1:=congrArg List.length h.eq
 have h2:=List.length_filter_le (fun r:RK=>isVK r.key) R
 rw[List.length_map] at h1
 omega
theorem VR.st{R:List RK}{V:List VarV}(h:VR R V)(hs:SortK R):(V.map kV).Pairwise fun x y=>ltB x y=true:=by
 have h1:(V.map rcdV).Pairwise fun x y:RK=>ltB x.key y.key=true:=by
  rw[←h.eq]
  exact List.Pairwise.sublist List.filter_sublist hs
 rw[List.pairwise_map] at h1⊢
 exact h1
theorem nextK_filter(beh:List UInt8):∀ks:List (List UInt8),nextK ks beh=nextK (ks.filter isVK) beh
 | []=>rfl
 | k::ks=>by
  have ih:=nextK_filter beh ks
  unfold nextK at ih⊢
  cases hk:isVK k with
  | true=>
   rw[List.filter_cons_of_pos hk,List.find?_cons,List.find?_cons,hk]
   cases ltB beh k
   ·exact ih
   ·rfl
  | false=>
   rw[List.filter_cons_of_neg (by rw[hk];simp),List.find?_cons,hk,Bool.and_false]
   exact ih
theorem VR.next{R:List RK}{V:List VarV}(h:VR R V)(beh:List UInt8):nextK (ksR R) beh=nextK (V.map kV) beh:=by
 rw[nextK_filter]
 have e:(ksR R).filter isVK=V.map kV:=by
  have h1:=congrArg (List.map fun r:RK=>r.key) h.eq
  rw[List.map_map] at h1
  unfold ksR
  rw[List.filter_map]
  exact h1
 rw[e]
theorem VR.nextA{R:List RK}{V:List VarV}(h:VR R V)(beh:List UInt8):Go.Proofs.YtpbpiehcchannaaGreatDoor.nextA (ksR R) beh=Go.Proofs.YtpbpiehcchannaaGreatDoor.nextA (V.map kV) beh:=by
 unfold Go.Proofs.YtpbpiehcchannaaGreatDoor.nextA
 rw[h.next]
/-! a name, and the record of it -/
theorem RecB.var{R:List RK}(h:∀r∈R,RecB r){nm:ByteArray}{g:List UInt8}(hg:g.length=16){r:RK}(hr:r∈R)(e:r.key=keyV nm g):∃v,VOk v∧r=rcdV v∧v.nm=nm∧v.g=g:=by
 rcases h r hr with⟨v,hv,rfl⟩ | ⟨x,rfl⟩
 ·obtain⟨e1,e2⟩:=keyV_inj hv.ok.g hg e
  exact⟨v,hv,rfl,e1,e2⟩
 ·have:=congrArg List.length e
  unfold keyV at this
  rw[List.length_append,hg] at this
  have h4:markK.length=4:=rfl
  simp only at this
  omega
theorem RecB.mark{R:List RK}(h:∀r∈R,RecB r){r:RK}(hr:r∈R)(e:r.key=markK):∃x,r=⟨markK,[x],true⟩:=by
 rcases h r hr with⟨v,hv,rfl⟩ | ⟨x,rfl⟩
 ·exact absurd e (mark_ne hv)
 ·exact⟨x,rfl⟩
theorem RecB.okK{r:RK}(h:RecB r):OkK r:=by
 rcases h with⟨v,hv,rfl⟩ | ⟨x,rfl⟩
 ·refine⟨keyV_len hv,?_⟩
  show(laidV v).length≤65536
  rw[laid_len hv.ok]
  have:=hv.d
  omega
 ·exact⟨⟨by show 1≤markK.length;decide,by show markK.length≤255;decide⟩,by show(1:Nat)≤65536;decide⟩
theorem SortK.one{R:List RK}(h:SortK R){a b:RK}(ha:a∈R)(hb:b∈R)(e:a.key=b.key):a=b:=by
 obtain⟨i,hi,rfl⟩:=List.getElem_of_mem ha
 obtain⟨j,hj,rfl⟩:=List.getElem_of_mem hb
 have hp:=List.pairwise_iff_getElem.1 h
 rcases Nat.lt_trichotomy i j with q | q | q
 ·have:=hp i j hi hj q
  rw[e,ltB_irr] at this;cases this
 ·subst q;rfl
 ·have:=hp j i hj hi q
  rw[e,ltB_irr] at this;cases this
theorem SortK.ext:∀{R R':List RK},SortK R→SortK R'→(∀r,r∈R↔r∈R')→R=R'
 | [],[],_,_,_=>rfl
 | [],b::R',_,_,h=>by have:=(h b).2 (List.mem_cons_self ..);cases this
 | a::R,[],_,_,h=>by have:=(h a).1 (List.mem_cons_self ..);cases this
 | a::R,b::R',h1,h2,h=>by
  have h1':=h1;have h2':=h2
  unfold SortK at h1' h2'
  rw[List.pairwise_cons] at h1' h2'
  have hab:a=b:=by
   rcases List.mem_cons.1 ((h a).1 (List.mem_cons_self ..)) with q | q
   ·exact q
   rcases List.mem_cons.1 ((h b).2 (List.mem_cons_self ..)) with p | p
   ·exact p.symm
   have e1:=h2'.1 a q
   have e2:=h1'.1 b p
   rw[ltB_asym e1] at e2;cases e2
  subst hab
  have:R=R':=SortK.ext h1'.2 h2'.2 fun r=>by
   constructor
   ·intro hr
    rcases List.mem_cons.1 ((h r).1 (List.mem_cons_of_mem _ hr)) with q | q
    ·subst q;have:=h1'.1 r hr;rw[ltB_irr] at this;cases this
    ·exact q
   ·intro hr
    rcases List.mem_cons.1 ((h r).2 (List.mem_cons_of_mem _ hr)) with q | q
    ·subst q;have:=h2'.1 r hr;rw[ltB_irr] at this;cases this
    ·exact q
  rw[this]
inductive MarkIs (R:List RK):UInt8→Prop
 | yes (x:UInt8) (h:(⟨markK,[x],true⟩:RK)∈R):MarkIs R x
 | no (h:∀r∈R,r.key≠markK):MarkIs R 0
theorem MarkIs.of{R:List RK}(h:∀r∈R,RecB r):∃x,MarkIs R x:=by
 by_cases q:∃r∈R,r.key=markK
 ·obtain⟨r,hr,e⟩:=q
  obtain⟨x,rfl⟩:=RecB.mark h hr e
  exact⟨x,.yes x hr⟩
 ·exact⟨0,.no fun r hr e=>q ⟨r,hr,e⟩⟩
theorem usedK_split:∀R:List RK,usedK R=usedK (R.filter fun r=>isVK r.key)+usedK (R.filter fun r=> !isVK r.key)
 | []=>rfl
 | r::R=>by
  have ih:=usedK_split R
  cases h:isVK r.key with
  | true=>rw[List.filter_cons_of_pos (by exact h),List.filter_cons_of_neg (by simp[h])];simp only[usedK,ih];omega
  | false=>rw[List.filter_cons_of_neg (by simp[h]),List.filter_cons_of_pos (by simp[h])];simp only[usedK,ih];omega
theorem MarkIs.rest{R:List RK}(h:∀r∈R,RecB r)(hs:SortK R):(∃x,(⟨markK,[x],true⟩:RK)∈R∧usedK (R.filter fun r=> !isVK r.key)=17)∨((∀r∈R,r.key≠markK)∧usedK (R.filter fun r=> !isVK r.key)=0):=by
 have hf:∀r∈R.filter (fun r=> !isVK r.key),r.key=markK:=by
  intro r hr
  obtain⟨h1,h2⟩:=List.mem_filter.1 hr
  rcases h r h1 with⟨v,hv,rfl⟩ | ⟨x,rfl⟩
  ·rw[show isVK (rcdV v).key=true from kV_vk hv] at h2;cases h2
  ·rfl
 by_cases q:∃r∈R,r.key=markK
 ·obtain⟨r,hr,e⟩:=q
  obtain⟨x,rfl⟩:=RecB.mark h hr e
  refine .inl ⟨x,hr,?_⟩
  have hm:(⟨markK,[x],true⟩:RK)∈R.filter (fun r=> !isVK r.key):=List.mem_filter.2 ⟨hr,rfl⟩
  have hs':SortK (R.filter (fun r=> !isVK r.key)):=List.Pairwise.sublist List.filter_sublist hs
  generalize R.filter (fun r=> !isVK r.key)=F at hf hm hs'
  match F,hf,hm,hs' with
  | [],_,hm,_=>cases hm
  | [a],_,hm,_=>rw[List.mem_singleton] at hm;subst hm;rfl
  | a::b::F,hf,_,hs'=>
   have e1:=hf a (List.mem_cons_self ..)
   have e2:=hf b (List.mem_cons_of_mem _ (List.mem_cons_self ..))
   unfold SortK at hs'
   rw[List.pairwise_cons] at hs'
   have:=hs'.1 b (List.mem_cons_self ..)
   rw[e1,e2,ltB_irr] at this;cases this
 ·refine .inr ⟨fun r hr e=>q ⟨r,hr,e⟩,?_⟩
  have:R.filter (fun r=> !isVK r.key)=[]:=by
   cases hF:R.filter (fun r=> !isVK r.key) with
   | nil=>rfl
   | cons a F=>
    rw[hF] at hf
    have ha:a∈R.filter (fun r=> !isVK r.key):=by rw[hF];exact List.mem_cons_self ..
    exact absurd ⟨a,(List.mem_filter.1 ha).1,hf a (List.mem_cons_self ..)⟩ q
  rw[this];rfl
theorem map_eq{R R':List RK}{V:List VarV}{x:UInt8}(h:∀r∈R,RecB r)(h':∀r∈R',RecB r)(hs:SortK R)(hs':SortK R')(hV:VR R V)(hV':VR R' V)(hm:MarkIs R x)(hm':MarkIs R' x)(hu:usedK R=usedK R'):R=R':=by
 have e1:=usedK_split R
 have e2:=usedK_split R'
 rw[hV.eq] at e1
 rw[hV'.eq] at e2
 have key:∀{A B:List RK},(∀r∈A,RecB r)→(∀r∈B,RecB r)→SortK A→SortK B→VR A V→VR B V→MarkIs A x→MarkIs B x→usedK (A.filter fun r=> !isVK r.key)=usedK (B.filter fun r=> !isVK r.key)→∀r∈A,r∈B:=by
  intro A B hA hB sA sB vA vB mA mB hu r hr
  rcases hA r hr with⟨v,hv,rfl⟩ | ⟨z,rfl⟩
  ·have:rcdV v∈A.filter (fun r=>isVK r.key):=List.mem_filter.2 ⟨hr,kV_vk hv⟩
   rw[vA.eq] at this
   obtain⟨u,hu1,hu2⟩:=List.mem_map.1 this
   rw[←hu2];exact vB.mem hu1
  ·have hzx:z=x:=by
     cases mA with
     | yes x q=>have:=sA.one hr q rfl;injection this with _ e _;injection e
     | no q=>exact absurd rfl (q _ hr)
   rcases MarkIs.rest hA sA with⟨a,a1,a2⟩ | ⟨a1,a2⟩
   ·rcases MarkIs.rest hB sB with⟨b,b1,b2⟩ | ⟨b1,b2⟩
    ·have hbx:b=x:=by
       cases mB with
       | yes x q=>have:=sB.one b1 q rfl;injection this with _ e _;injection e
       | no q=>exact absurd rfl (q _ b1)
     rw[hzx,←hbx];exact b1
    ·rw[a2,b2] at hu;cases hu
   ·exact absurd rfl (a1 _ hr)
 exact SortK.ext hs hs' fun r=>⟨key h h' hs hs' hV hV' hm hm' (by omega) r,key h' h hs' hs hV' hV hm' hm (by omega) r⟩
theorem VR.uniq{R:List RK}{V V':List VarV}(h:VR R V)(h':VR R V'):V.map rcdV=V'.map rcdV:=h.eq.symm.trans h'.eq
end Go.Proofs.YtpbpiehcchannaaGreatDoor
