/- What slices.SortFunc and all that it calls are in this program, for the shelf's contract. bytes.Compare, slices.SortFunc over it. Conditions: the premises of each law. -/
import Derived.Test.YtpbpiehcchannaaGreatDoorProg
import Derived.Shelf.SlLaysF
import Derived.Test.YtpbpiehcchannaaGreatDoorJHa
import Derived.Test.YtpbpiehcchannaaGreatDoorJHp
import Derived.Shelf.SlSortCmp.NoneTotal
import Derived.Lib.BytesEntry
namespace Go.Proofs.YtpbpiehcchannaaGreatDoor
set_option linter.unusedVariables false
set_option linter.unusedSimpArgs false
set_option maxRecDepth 100000
set_option maxHeartbeats 1500000
def Qa:Go.Shelf.Ren:=⟨fun | 6=>116 | 15=>161 | 14=>160 | 28=>200 | 29=>201 | 20=>192 | 21=>193 | 22=>194 | 23=>195 | 24=>196 | 25=>197 | 26=>198 | 27=>199 | 46=>215 | 47=>216 | 48=>217 | 49=>218 | 50=>219 | 57=>222 | n=>n,fun | 22=>47 | 24=>23 | 25=>182 | 3=>3 | 39=>191 | 0=>0 | 53=>72 | 55=>168 | 4=>4 | 46=>250 | 45=>249 | 50=>254 | 5=>5 | 9=>9 | 66=>269 | 70=>273 | 76=>276 | 77=>277 | n=>n,fun | n=>n⟩
theorem Iy:Go.Proofs.SlLaysF.n6 Tryz.prog Qa where
 mixed:=by kernel_rfl
 f6:=⟨"slices.SortFunc[[][]byte,[]byte]",by decide,Tryz.func116.trans (congrArg some (by kernel_rfl))⟩
 f14:=⟨"slices.pdqsortCmpFunc[[]byte]",by decide,Tryz.func160.trans (congrArg some (by kernel_rfl))⟩
 f15:=Tryz.func161.trans (congrArg some (by kernel_rfl))
 f20:=⟨"slices.insertionSortCmpFunc[[]byte]",by decide,Tryz.func192.trans (congrArg some (by kernel_rfl))⟩
 f21:=⟨"slices.heapSortCmpFunc[[]byte]",by decide,Tryz.func193.trans (congrArg some (by kernel_rfl))⟩
 f22:=⟨"slices.breakPatternsCmpFunc[[]byte]",by decide,Tryz.func194.trans (congrArg some (by kernel_rfl))⟩
 f23:=⟨"slices.choosePivotCmpFunc[[]byte]",by decide,Tryz.func195.trans (congrArg some (by kernel_rfl))⟩
 f24:=⟨"slices.reverseRangeCmpFunc[[]byte]",by decide,Tryz.func196.trans (congrArg some (by kernel_rfl))⟩
 f25:=⟨"slices.partialInsertionSortCmpFunc[[]byte]",by decide,Tryz.func197.trans (congrArg some (by kernel_rfl))⟩
 f26:=⟨"slices.partitionEqualCmpFunc[[]byte]",by decide,Tryz.func198.trans (congrArg some (by kernel_rfl))⟩
 f27:=⟨"slices.partitionCmpFunc[[]byte]",by decide,Tryz.func199.trans (congrArg some (by kernel_rfl))⟩
 f28:=Tryz.func200.trans (congrArg some (by kernel_rfl))
 f29:=Tryz.func201.trans (congrArg some (by kernel_rfl))
 f46:=⟨"slices.siftDownCmpFunc[[]byte]",by decide,Tryz.func215.trans (congrArg some (by kernel_rfl))⟩
 f47:=Tryz.func216.trans (congrArg some (by kernel_rfl))
 f48:=Tryz.func217.trans (congrArg some (by kernel_rfl))
 f49:=⟨"slices.medianAdjacentCmpFunc[[]byte]",by decide,Tryz.func218.trans (congrArg some (by kernel_rfl))⟩
 f50:=⟨"slices.medianCmpFunc[[]byte]",by decide,Tryz.func219.trans (congrArg some (by kernel_rfl))⟩
 f57:=⟨"slices.order2CmpFunc[[]byte]",by decide,Tryz.func222.trans (congrArg some (by kernel_rfl))⟩
 t0:=Tryz.underlying0
 a0:=Tryz.isAgg0
 z0:=Tryz.sizeOf0
 v0:=Tryz.zeroValue0
 t3:=Tryz.underlying3
 a3:=Tryz.isAgg3
 z3:=Tryz.sizeOf3
 v3:=Tryz.zeroValue3
 t4:=Tryz.underlying4
 a4:=Tryz.isAgg4
 z4:=Tryz.sizeOf4
 v4:=Tryz.zeroValue4
 t5:=Tryz.underlying5
 a5:=Tryz.isAgg5
 z5:=Tryz.sizeOf5
 v5:=Tryz.zeroValue5
 t9:=Tryz.underlying9
 a9:=Tryz.isAgg9
 z9:=Tryz.sizeOf9
 v9:=Tryz.zeroValue9
 t22:=Tryz.underlying47
 a22:=Tryz.isAgg47
 z22:=Tryz.sizeOf47
 v22:=Tryz.zeroValue47
 a24:=Tryz.isAgg23
 z24:=Tryz.sizeOf23
 t25:=Tryz.underlying182
 a25:=Tryz.isAgg182
 z25:=Tryz.sizeOf182
 v25:=Tryz.zeroValue182
 t39:=Tryz.underlying191
 a39:=Tryz.isAgg191
 z39:=Tryz.sizeOf191
 v39:=Tryz.zeroValue191
 t45:=Tryz.underlying249
 a45:=Tryz.isAgg249
 z45:=Tryz.sizeOf249
 v45:=Tryz.zeroValue249
 t46:=Tryz.underlying250
 a46:=Tryz.isAgg250
 z46:=Tryz.sizeOf250
 v46:=Tryz.zeroValue250
 t50:=Tryz.underlying254
 a50:=Tryz.isAgg254
 z50:=Tryz.sizeOf254
 v50:=Tryz.zeroValue254
 t53:=Tryz.underlying72
 a53:=Tryz.isAgg72
 z53:=Tryz.sizeOf72
 v53:=Tryz.zeroValue72
 t55:=Tryz.underlying168
 a55:=Tryz.isAgg168
 z55:=Tryz.sizeOf168
 v55:=Tryz.zeroValue168
 t66:=Tryz.underlying269
 a66:=Tryz.isAgg269
 z66:=Tryz.sizeOf269
 v66:=Tryz.zeroValue269
 t70:=Tryz.underlying273
 a70:=Tryz.isAgg273
 z70:=Tryz.sizeOf273
 v70:=Tryz.zeroValue273
 t76:=Tryz.underlying276
 a76:=Tryz.isAgg276
 z76:=Tryz.sizeOf276
 v76:=Tryz.zeroValue276
 t77:=Tryz.underlying277
 a77:=Tryz.isAgg277
 z77:=Tryz.sizeOf277
 v77:=Tryz.zeroValue277
open Go.RowKit Go.Lib Go.Sort
theorem Iz{P:Program}{w:World}{v:Value}{l:List UInt8}(h:BS w v l):(Extern.Bytes.bytesOf v).run P w= .ok (strOf l) w:=by
 obtain⟨a,n,c,rfl,h⟩:=h
 have hn:=h.n4
 cases a with
 | none=>
  have hc:=h.nil rfl
  have hle:=h.le
  have:l=[]:=List.eq_nil_of_length_eq_zero (by omega)
  subst this
  rfl
 | some ad=>
  have:=run_loadBytesX (P:=P) w (l.map fun b:UInt8=>(b.toNat:Int)) ad .empty fun j x hx=>by
   rw[List.getElem?_map] at hx
   obtain⟨b,hb,rfl⟩:=Option.map_eq_some_iff.1 hx
   exact h.cell ad rfl j (bv b) (by rw[df,List.getElem?_map,hb];rfl)
  rw[List.length_map,hn] at this
  show(Extern.Bytes.loadBytes ad n .empty).run P w=_
  rw[this]
  congr 1
  apply ByteArray.ext
  simp[strOf,bytesOf]
  rw[show((fun n:Int=>UInt8.ofNat n.toNat)∘fun b:UInt8=>(b.toNat:Int))=id from funext fun b=>by simp]
  exact List.map_id l
theorem IA (w : World) (u v : Value) (a b : List UInt8) (hu : BS w u a) (hv : BS w v b) :
    Calls Tryz.prog 117 #[u,v] w fun e w'=>e= .returned (.int .i64 (compareBytes a b))∧w'=w:=by
 have jt:=Iz (P:=Tryz.prog) hu
 have sC:=Iz (P:=Tryz.prog) hv
 go_enter Tryz.func117,Tryz.ntmps117
 go_wp2
 have hc:(Extern.BytealgCompare.compare #[u,v]).run Tryz.prog w= .ok (.int .i64 (compareBytes a b)) w:=by
  show Sem.run Tryz.prog (do pure (goInt (Extern.BytealgCompare.cmp (←Extern.Bytes.bytesOf u) (←Extern.Bytes.bytesOf v)))) w=_
  simp only[Sem.run_bind,jt,sC,Result.andThen_ok,Sem.run_pure,cmp_eq,goInt]
  rfl
 rw[run_callFunc_extern Tryz.func162 (by kernel_rfl) (by kernel_rfl) (by kernel_rfl) (e:=Extern.BytealgCompare.compare) (by kernel_rfl),hc]
 simp only[Result.andThen]
 rw[Oper.upon_value]
 go_wp2
 go_ret
 exact⟨rfl,rfl⟩
def fT(q w:Nat):Nat×Nat→List AV:=fun x=>[.pl q w x.1 0 x.2]
def kf(keys:List (List UInt8))(rs:List (Nat×Nat)):List (Nat×Nat):=((List.finRange rs.length).mergeSort fun i j=> !aS (keys.getD j []) (keys.getD i [])).map fun i:Fin rs.length=>rs.getD i.val (0,0)
theorem C3(keys:List (List UInt8))(rs:List (Nat×Nat)):(kf keys rs).length=rs.length:=by simp[kf,List.length_mergeSort]
theorem IB{α:Type}[Inhabited α](enc:α→Value)(w:World)(aQ m:Nat)(d:Array α)(os:Array Obj)(b:Nat)(hb:b≠aQ)(ah:b<w.heap.size):(sortWorld enc w aQ 0 m d os).heap[b]? =w.heap[b]?:=by
 unfold sortWorld grow putRow mapBlock
 simp only
 rw[Array.getElem?_append_left (by simp;exact ah),Array.getElem?_modify,if_neg (fun e=>hb e.symm)]
 rfl
theorem Qc{α:Type}[Inhabited α](enc:α→Value)(w:World)(aQ m:Nat)(d:Array α)(os:Array Obj){cur:Array Value}{T:TypeId}{fz:Nat×Nat}(hc:w.heap[aQ]? =some (.cells cur T fz)):(sortWorld enc w aQ 0 m d os).heap[aQ]? =some (.cells (putCells enc 0 d cur) T fz):=by
 have ah:=(Array.getElem?_eq_some_iff.1 hc).1
 unfold sortWorld grow putRow mapBlock
 simp only
 rw[Array.getElem?_append_left (by simp;exact ah),Array.getElem?_modify,if_pos rfl]
 show Option.map _ (w.heap[aQ]?)=_
 rw[hc];rfl
theorem Qd{n:Nat}(key:Fin n→List UInt8):SWO (ltOf fun i j:Fin n=>compareBytes (key i) (key j)) where
 irrefl i:=by unfold ltOf;rw[s8,lR]
 trans i j k h1 h2:=by unfold ltOf at*;rw[s8] at*;exact rf h1 h2
 ntrans i j k h1 h2:=by
  unfold ltOf at*
  rw[s8] at*
  cases q:aS (key i) (key k) with
  | false=>rfl
  | true=>
   cases q2:aS (key k) (key j) with
   | true=>have:=rf q q2;rw[this] at h1;cases h1
   | false=>have:=oy _ _ h2 q2;rw[←this,h1] at q;cases q
theorem IC (rs : List (Nat × Nat)) (ps keys : List (List UInt8)) (hlen : keys.length = rs.length) (hk : ∀ (i : Nat) (x : Nat × Nat) (k : List UInt8), rs[i]? = some x → keys[i]? = some k → ps[x.1]? = some k ∧ x.2 = k.length) (dK : keys.Nodup) (ck : rs.length ≤ 4194304) (n : Nat) (hn : n = rs.length) (vr wp : Nat) :
    Spec Tryz.prog 116 [.own 0 vr 1 0 n,.clo 117 []] [⟨vr,.row 1 (fT 1 wp) (0,0) rs⟩,⟨wp,.az ps⟩] (ak (.aD []) [⟨vr,.row 1 (fT 1 wp) (0,0) (kf keys rs)⟩,⟨wp,.az ps⟩] []):=by
 subst hn
 intro w E cargs hr cg
 simp only[aq,ae] at cg
 obtain⟨v,vs,rfl,⟨rQ,hv⟩,fv,rh,rfl,⟨cs,rfl,rfl⟩,rfl⟩:=cg
 have j7:([⟨vr,.row 1 (fT 1 wp) (0,0) rs⟩,⟨wp,.az ps⟩]:List J)[0]? =some ⟨vr,.row 1 (fT 1 wp) (0,0) rs⟩:=rfl
 have kP:([⟨vr,.row 1 (fT 1 wp) (0,0) rs⟩,⟨wp,.az ps⟩]:List J)[1]? =some ⟨wp,.az ps⟩:=rfl
 obtain⟨a,c,rfl,h2,h3,h4,h5⟩:=hv (hr.ver 0 _ j7).symm
 rcases Nat.eq_zero_or_pos rs.length with h0 | l5
 ·have ma:rs=[]:=List.eq_nil_of_length_eq_zero h0
  subst ma
  refine(AnyF.slices_SortFunc_none {Iy with} a c (.func (.func 117) #[] #[]) w).mono fun e w'⟨h1,h2⟩=> ?_
  subst h2
  have De:kf keys []=[]:=by simp[kf]
  rw[De]
  exact⟨.tuple #[],.aD [],_,E,h1,⟨[],rfl,rfl,trivial⟩,by simp only[ae];exact⟨[],rfl,by simp only[aq]⟩,hr,Ext.refl _ _,fun z b h=> .inl h,Nat.le_refl _,fun r e b h hb=> .inr ⟨r,e,h,hb⟩,⟨rfl,rfl,rfl,Nat.le_refl _,fun _ _ _=>rfl,fun k cur T fz h=>⟨cur,T,fz,h,Nat.le_refl _⟩,fun r e b h hb _ jJ=>jJ r e h hb⟩⟩
 obtain⟨br,rfl,_⟩:=h5.resolve_left (by omega)
 have b9:bN E 0 ⟨vr,.row 1 (fT 1 wp) (0,0) rs⟩:=⟨rfl,br⟩
 obtain⟨cur,T,lo,hi,g1,g2,g3,g4⟩:=(hr.bS 0 _ j7 b9).aQ rfl
 have Qe:=hr.lt j7 b9
 haveI:Inhabited (Fin rs.length):=⟨⟨0,l5⟩⟩
 obtain⟨key,dz⟩:∃key:Fin rs.length→List UInt8,∀i,key i=keys.getD i.val []:=⟨_,fun _=>rfl⟩
 have iH:∀i:Fin rs.length,∃u,cur[i.val]? =some u∧ae E w (.pl 1 wp (rs.getD i.val (0,0)).1 0 (rs.getD i.val (0,0)).2) u∧u.oneCell'=true∧∀W:World,(∀b,b≠E.ρ 0→b<w.heap.size→W.heap[b]? =w.heap[b]?)→BS W u (key i):=by
  intro i
  have hx:rs[i.val]? =some (rs.getD i.val (0,0)):=by rw[List.getD_eq_getElem?_getD,List.getElem?_eq_getElem i.isLt];rfl
  have uG:keys[i.val]? =some (key i):=by rw[dz,List.getD_eq_getElem?_getD,List.getElem?_eq_getElem (by omega)];rfl
  obtain⟨q1,q2⟩:=hk i.val _ _ hx uG
  generalize rs.getD i.val (0,0)=x at hx q1 q2
  obtain⟨cs,k1,k2,k3⟩:=g4 i.val (fT 1 wp x) (by simp only[Bd.at];rw[hx];rfl)
  simp only[fT,aq] at k2
  obtain⟨u,us,rfl,k4,rfl⟩:=k2
  have k5:=k3 0 u rfl
  simp only[Bd.sz,Nat.mul_one,Nat.add_zero] at k5
  refine⟨u,k5,k4,?_,fun W hW=> ?_⟩
  ·simp only[ae] at k4
   obtain⟨a',c',e1,_⟩:=k4.2 (hr.ver 1 _ kP).symm
   rw[e1];rfl
  have c8:x.1<ps.length:=(List.getElem?_eq_some_iff.1 q1).1
  have gV:ps.getD x.1 []=key i:=by rw[List.getD_eq_getElem?_getD,q1];rfl
  have hb:=EC hr kP (off:=0) (n:=x.2) c8 rfl (by rw[gV];omega) k4
  rw[gV,List.drop_zero,q2,List.take_length] at hb
  simp only[ae] at k4
  obtain⟨a',c',e1,e2,e3,e4,e5⟩:=k4.2 (hr.ver 1 _ kP).symm
  obtain⟨a2,n2,c2,e6,hs⟩:=hb
  rw[e1] at e6
  cases e6
  rcases e5 with e5 | ⟨b,e5,e7,_⟩
  ·refine⟨a',x.2,c',e1,⟨hs.len,hs.le,hs.max,hs.nil,fun ad had j z hz=> ?_⟩⟩
   have hj:=(List.getElem?_eq_some_iff.1 hz).1
   rw[hs.len] at hj
   omega
  ·refine⟨a',x.2,c',e1,hs.keep fun ad had ah=>hW ad.block (fun e=> ?_) ah⟩
   rw[e7] at had
   cases had
   have:=hr.inj 0 1 _ _ b j7 kP (.inl ⟨b9,e.symm⟩) (.inr ⟨rfl,x.1,e5⟩)
   omega
 obtain⟨enc,ri⟩:∃enc:Fin rs.length→Value,∀i,cur[i.val]? =some (enc i)∧ae E w (.pl 1 wp (rs.getD i.val (0,0)).1 0 (rs.getD i.val (0,0)).2) (enc i)∧(enc i).oneCell'=true∧∀W:World,(∀b,b≠E.ρ 0→b<w.heap.size→W.heap[b]? =w.heap[b]?)→BS W (enc i) (key i):=⟨fun i=>Classical.choose (iH i),fun i=>Classical.choose_spec (iH i)⟩
 have pH:((List.finRange rs.length).toArray).size=rs.length:=by simp
 have zy:CmpLays1 Tryz.prog 117 #[] enc (fun i j:Fin rs.length=>compareBytes (key i) (key j)) (E.ρ 0) 0 ((List.finRange rs.length).toArray).size w:=by
  intro m os dk hs x y
  have hW:∀b,b≠E.ρ 0→b<w.heap.size→(sortWorld enc w (E.ρ 0) 0 m dk os).heap[b]? =w.heap[b]?:=fun b h1 h2=>IB enc w _ m dk os b h1 h2
  have:=IA (sortWorld enc w (E.ρ 0) 0 m dk os) (enc x) (enc y) _ _ ((ri x).2.2.2 _ hW) ((ri y).2.2.2 _ hW)
  rw[Array.append_empty]
  exact this.mono fun e w' h=>⟨h.1,0,#[],by rw[h.2];simp[World.drewN]⟩
 have hH:Holds enc w (E.ρ 0) 0 (List.finRange rs.length).toArray:=by
  intro j hj
  rw[pH] at hj
  have e:((List.finRange rs.length).toArray)[j]! =(⟨j,hj⟩:Fin rs.length):=by rw[getElem!_pos _ j (by simpa using hj)];simp
  rw[e]
  refine⟨by rw[cell_of_row w _ _ cur T (lo,hi) g1,Nat.zero_add];exact(ri ⟨j,hj⟩).1,?_⟩
  have qu:j<cur.size:=(Array.getElem?_eq_some_iff.1 (ri ⟨j,hj⟩).1).1
  unfold World.frozen?
  simp only[g1,Bool.and_eq_false_iff,decide_eq_false_iff_not]
  omega
 have v7:∀x y:Fin rs.length,ltOf (fun i j:Fin rs.length=>compareBytes (key i) (key j)) x y=false→ltOf (fun i j:Fin rs.length=>compareBytes (key i) (key j)) y x=false→x=y:=by
  intro x y q1 q2
  unfold ltOf at q1 q2
  rw[s8] at q1 q2
  have e:=oy _ _ q1 q2
  rw[dz,dz] at e
  have:=(List.getElem_inj (xs:=keys) dK (i:=x.val) (j:=y.val) (h₀:=by omega) (h₁:=by omega)).1 (by
   rw[List.getD_eq_getElem?_getD,List.getD_eq_getElem?_getD,List.getElem?_eq_getElem (by omega),List.getElem?_eq_getElem (by omega)] at e
   exact e)
  exact Fin.ext this
 have ID:=Any.slices_SortFunc_total Iy enc (fun i=>(ri i).2.2.1) (fun i j:Fin rs.length=>compareBytes (key i) (key j)) (Qd key) 117 #[] (E.ρ 0) 0 c (List.finRange rs.length).toArray w (fun args w=>Tryz.call117 args w) zy hH Qe (by rw[pH];omega) v7
 rw[pH] at ID
 refine Calls.mono ID fun e w'⟨h1,m,os,hw⟩=> ?_
 subst hw
 obtain⟨D,hD⟩:∃D,D=(List.finRange rs.length).mergeSort fun x y:Fin rs.length=> !ltOf (fun i j:Fin rs.length=>compareBytes (key i) (key j)) y x:=⟨_,rfl⟩
 rw[show(List.finRange rs.length).toArray.toList=List.finRange rs.length from rfl,←hD]
 have Vf:D.length=rs.length:=by rw[hD,List.length_mergeSort,List.length_finRange]
 have De:kf keys rs=D.map fun i:Fin rs.length=>rs.getD i.val (0,0):=by
  rw[hD]
  unfold kf
  congr 2
  funext x y
  unfold ltOf
  rw[s8,dz,dz]
 obtain⟨w',lx⟩:∃w',w'=sortWorld enc w (E.ρ 0) 0 m D.toArray os:=⟨_,rfl⟩
 rw[←lx]
 have rV:∀b,b≠E.ρ 0→b<w.heap.size→w'.heap[b]? =w.heap[b]?:=fun b q1 q2=>by rw[lx];exact IB enc w _ m _ os b q1 q2
 have hblk:w'.heap[E.ρ 0]? =some (.cells (putCells enc 0 D.toArray cur) T (lo,hi)):=by rw[lx];exact Qc enc w _ m _ os g1
 have qa:w.heap.size≤w'.heap.size:=by
  rw[lx];unfold sortWorld grow;simp only[Array.size_append,size_putRow,heap_ahead];omega
 have fQ:(putCells enc 0 D.toArray cur).size=cur.size:=by simp[putCells]
 have Xt:Ext E E w w':=by
  refine⟨fun _=>Nat.le_refl _,fun _ _=>rfl,fun _ _=>Iff.rfl,fun z b h=>h,fun z b h=>rV b (fun e=>hr.wF 0 _ j7 b9 z (e▸h)) (hr.cX z b h),fun k cW T' fz h=> ?_,fun _ _ _ _ h=>h⟩
  by_cases q:k=E.ρ 0
  ·subst q
   rw[g1] at h
   cases h
   exact⟨_,_,_,hblk,by rw[fQ];exact Nat.le_refl _⟩
  ·exact⟨cW,T',fz,by rw[rV k q (Array.getElem?_eq_some_iff.1 h).1];exact h,Nat.le_refl _⟩
 have tV:∀(i:Nat)(hi:i<D.length),(putCells enc 0 D.toArray cur)[i]? =some (enc D[i]):=by
  intro i bP
  have hc:i<cur.size:=by have:=(Array.getElem?_eq_some_iff.1 (ri ⟨i,by omega⟩).1).1;exact this
  have e1:D.toArray[i]! =D[i]:=by rw[getElem!_pos _ i (by simpa using bP)];simp
  unfold putCells
  rw[Array.getElem?_mapIdx,Array.getElem?_eq_getElem hc,Option.map_some,if_pos ⟨Nat.zero_le _,by simpa using bP⟩,Nat.sub_zero,e1]
 have wc:∀(r:Nat)(e:J),([⟨vr,.row 1 (fT 1 wp) (0,0) (kf keys rs)⟩,⟨wp,.az ps⟩]:List J)[r]? =some e→(r=0∧e=⟨vr,.row 1 (fT 1 wp) (0,0) (kf keys rs)⟩)∨(r=1∧e=⟨wp,.az ps⟩):=by
  intro r e h
  match r,h with
  | 0,h=>cases h;exact .inl ⟨rfl,rfl⟩
  | 1,h=>cases h;exact .inr ⟨rfl,rfl⟩
  | r+2,h=>cases h
 have wg:∀(r:Nat)(e:J)(b:Nat),([⟨vr,.row 1 (fT 1 wp) (0,0) (kf keys rs)⟩,⟨wp,.az ps⟩]:List J)[r]? =some e→aB E r e b→∃e0,([⟨vr,.row 1 (fT 1 wp) (0,0) rs⟩,⟨wp,.az ps⟩]:List J)[r]? =some e0∧aB E r e0 b:=by
  intro r e b h hb
  rcases wc r e h with⟨rfl,rfl⟩ | ⟨rfl,rfl⟩
  ·refine⟨_,j7,?_⟩
   rcases hb with⟨⟨_,q⟩,q2⟩ | ⟨q,_⟩
   ·exact .inl ⟨⟨rfl,q⟩,q2⟩
   ·cases q
  ·exact⟨_,kP,hb⟩
 refine⟨.tuple #[],.aD [],_,E,h1,⟨[],rfl,rfl,trivial⟩,by simp only[ae];exact⟨[],rfl,by simp only[aq]⟩,?_,Xt,fun z b h=> .inl h,Nat.le_refl _,fun r e b h hb=> .inr ⟨r,wg r e b h hb⟩,⟨?_,?_,?_,qa,fun k Qf jJ=>rV k (fun e=>jJ 0 _ j7 (.inl ⟨b9,e.symm⟩)) Qf,Xt.grow,fun r e b h hb _ jJ=> ?_⟩⟩
 ·refine⟨fun r e h=> ?_,fun r e h hl=> ?_,fun r e h ha=> ?_,fun r r' e e' b h h' hb gI=> ?_,fun z b h=>Nat.lt_of_lt_of_le (hr.cX z b h) qa,fun r e b h hb=> ?_,fun r h=>hr.top r h,hr.gl.ext Xt,fun r v ls h=> ?_⟩
  ·rcases wc r e h with⟨rfl,rfl⟩ | ⟨rfl,rfl⟩
   ·exact hr.ver 0 ⟨vr,.row 1 (fT 1 wp) (0,0) rs⟩ j7
   ·exact hr.ver 1 _ kP
  ·rcases wc r e h with⟨rfl,rfl⟩ | ⟨rfl,rfl⟩
   ·refine⟨fun _=>⟨_,T,lo,hi,hblk,by rw[fQ];exact g2,?_,fun i ys hy=> ?_⟩,by rintro _ _ _ ⟨⟩⟩
    ·simp only[Bd.count,Bd.sz,C3,fQ] at g3⊢;exact g3
    ·simp only[Bd.at] at hy
     obtain⟨x,hx,rfl⟩:=Option.map_eq_some_iff.1 hy
     rw[De,List.getElem?_map] at hx
     obtain⟨j,hj,rfl⟩:=Option.map_eq_some_iff.1 hx
     obtain⟨bP,rfl⟩:=List.getElem?_eq_some_iff.1 hj
     refine⟨[enc D[i]],rfl,?_,fun q u hq=> ?_⟩
     ·simp only[fT,aq]
      exact⟨_,[],rfl,fD Xt _ _ (ri D[i]).2.1,rfl⟩
     ·cases q with
      | zero=>
       simp only[List.getElem?_cons_zero,Option.some.injEq] at hq
       subst hq
       simp only[Bd.sz,Nat.mul_one,Nat.add_zero]
       exact tV i bP
      | succ q=>simp at hq
   ·cases hl.1
  ·rcases wc r e h with⟨rfl,rfl⟩ | ⟨rfl,rfl⟩
   ·exact absurd ha br
   ·exact hr.abs 1 _ kP ha
  ·obtain⟨e0,q1,q2⟩:=wg r e b h hb
   obtain⟨e1,q3,q4⟩:=wg r' e' b h' gI
   exact hr.inj r r' e0 e1 b q1 q3 q2 q4
  ·obtain⟨e0,q1,q2⟩:=wg r e b h hb
   exact hr.dC r e0 b q1 q2
  ·rcases wc r _ h with⟨rfl,h⟩ | ⟨rfl,h⟩
   ·cases h
   ·cases h
    have hp:=hr.az 1 wp ps kP
    refine hp.mL fun i b hb=>rV b (fun e=> ?_) (hp.lt hb)
    have:=hr.inj 0 1 _ _ b j7 kP (.inl ⟨b9,e.symm⟩) (.inr ⟨rfl,i,hb⟩)
    omega
 ·rw[lx];rfl
 ·rw[lx];rfl
 ·rw[lx];rfl
 ·obtain⟨e0,q1,q2⟩:=wg r e b h hb
  exact jJ r e0 q1 q2
end Go.Proofs.YtpbpiehcchannaaGreatDoor
