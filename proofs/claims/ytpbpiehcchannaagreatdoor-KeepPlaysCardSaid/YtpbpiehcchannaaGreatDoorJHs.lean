/- What slices.SortFunc and all that it calls are in this program, for the shelf's contract. bytes.Compare, slices.SortFunc over it. Conditions: the premises of each law. -/
import Derived.Test.YtpbpiehcchannaaGreatDoorProg
import Derived.Shelf.SlLaysF
import Derived.Test.YtpbpiehcchannaaGreatDoorJHa
import Derived.Test.YtpbpiehcchannaaGreatDoorJTb
import Derived.Test.YtpbpiehcchannaaGreatDoorJHp
import Derived.Shelf.SlSortCmp.NoneTotal
import Derived.Lib.Bytealg
import Derived.Lib.BytesEntry
namespace Go.Proofs.YtpbpiehcchannaaGreatDoor
def sortL_ren:Go.Shelf.Ren:=⟨fun | 6=>116 | 15=>161 | 14=>160 | 28=>200 | 29=>201 | 20=>192 | 21=>193 | 22=>194 | 23=>195 | 24=>196 | 25=>197 | 26=>198 | 27=>199 | 46=>215 | 47=>216 | 48=>217 | 49=>218 | 50=>219 | 57=>222 | n=>n,fun | 22=>47 | 24=>23 | 25=>182 | 3=>3 | 39=>191 | 0=>0 | 53=>72 | 55=>168 | 4=>4 | 46=>250 | 45=>249 | 50=>254 | 5=>5 | 9=>9 | 66=>269 | 70=>273 | 76=>276 | 77=>277 | n=>n,fun | n=>n⟩
theorem sortL:Go.Proofs.SlLaysF.n6 Tryz.prog sortL_ren where
 mixed:=by kernel_rfl
 f6:=⟨"slices.SortFunc[[][]byte,[]byte]",by decide,Tryz.func116.trans (congrArg some (by kernel_rfl))⟩
 f14:=⟨"slices.pdqsortCmpFunc[[]byte]",by decide,Tryz.func160.trans (congrArg some (by kernel_rfl))⟩
 f15:=Tryz.func161.trans (congrArg some (by kernel_rfl))
 f20:=⟨"slices.insertionSortCmpFunc[[]byte]",by decide,Tryz.func192.trans (congrArg some (by kernel_rfl))⟩
 f21:=⟨"slices.heapSortCmpFunc[[]byte]",by decide,Tryz.func193.trans (congrArg some (by kernel_rfl))⟩
 f22:=⟨"slices.breakPatternsCmpFunc[[]byte]",by decide,Tryz.func194.trans (congrArg some (by kernel_rfl))⟩
 f23:=⟨"slices.choosePivotCmpFunc[[]byte]",by decide,Tryz.func195.trans (congrArg some (by kernel_rfl))⟩
 f24:=⟨"slices.reverseRangeCmpFunc[[]byte]",by decide,Tryz.func196.trans (congrArg some (by kernel_rfl))⟩
 f25:=⟨"slices.partialInsertionSortCmpFunc[[]byte]",by decide,Tryz.func197.trans (congrArg some (by kernel_rfl))⟩
 f26:=⟨"slices.partitionEqualCmpFunc[[]byte]",by decide,Tryz.func198.trans (congrArg some (by kernel_rfl))⟩
 f27:=⟨"slices.partitionCmpFunc[[]byte]",by decide,Tryz.func199.trans (congrArg some (by kernel_rfl))⟩
 f28:=Tryz.func200.trans (congrArg some (by kernel_rfl))
 f29:=Tryz.func201.trans (congrArg some (by kernel_rfl))
 f46:=⟨"slices.siftDownCmpFunc[[]byte]",by decide,Tryz.func215.trans (congrArg some (by kernel_rfl))⟩
 f47:=Tryz.func216.trans (congrArg some (by kernel_rfl))
 f48:=Tryz.func217.trans (congrArg some (by kernel_rfl))
 f49:=⟨"slices.medianAdjacentCmpFunc[[]byte]",by decide,Tryz.func218.trans (congrArg some (by kernel_rfl))⟩
 f50:=⟨"slices.medianCmpFunc[[]byte]",by decide,Tryz.func219.trans (congrArg some (by kernel_rfl))⟩
 f57:=⟨"slices.order2CmpFunc[[]byte]",by decide,Tryz.func222.trans (congrArg some (by kernel_rfl))⟩
 t0:=Tryz.underlying0
 a0:=Tryz.isAgg0
 z0:=Tryz.sizeOf0
 v0:=Tryz.zeroValue0
 t3:=Tryz.underlying3
 a3:=Tryz.isAgg3
 z3:=Tryz.sizeOf3
 v3:=Tryz.zeroValue3
 t4:=Tryz.underlying4
 a4:=Tryz.isAgg4
 z4:=Tryz.sizeOf4
 v4:=Tryz.zeroValue4
 t5:=Tryz.underlying5
 a5:=Tryz.isAgg5
 z5:=Tryz.sizeOf5
 v5:=Tryz.zeroValue5
 t9:=Tryz.underlying9
 a9:=Tryz.isAgg9
 z9:=Tryz.sizeOf9
 v9:=Tryz.zeroValue9
 t22:=Tryz.underlying47
 a22:=Tryz.isAgg47
 z22:=Tryz.sizeOf47
 v22:=Tryz.zeroValue47
 a24:=Tryz.isAgg23
 z24:=Tryz.sizeOf23
 t25:=Tryz.underlying182
 a25:=Tryz.isAgg182
 z25:=Tryz.sizeOf182
 v25:=Tryz.zeroValue182
 t39:=Tryz.underlying191
 a39:=Tryz.isAgg191
 z39:=Tryz.sizeOf191
 v39:=Tryz.zeroValue191
 t45:=Tryz.underlying249
 a45:=Tryz.isAgg249
 z45:=Tryz.sizeOf249
 v45:=Tryz.zeroValue249
 t46:=Tryz.underlying250
 a46:=Tryz.isAgg250
 z46:=Tryz.sizeOf250
 v46:=Tryz.zeroValue250
 t50:=Tryz.underlying254
 a50:=Tryz.isAgg254
 z50:=Tryz.sizeOf254
 v50:=Tryz.zeroValue254
 t53:=Tryz.underlying72
 a53:=Tryz.isAgg72
 z53:=Tryz.sizeOf72
 v53:=Tryz.zeroValue72
 t55:=Tryz.underlying168
 a55:=Tryz.isAgg168
 z55:=Tryz.sizeOf168
 v55:=Tryz.zeroValue168
 t66:=Tryz.underlying269
 a66:=Tryz.isAgg269
 z66:=Tryz.sizeOf269
 v66:=Tryz.zeroValue269
 t70:=Tryz.underlying273
 a70:=Tryz.isAgg273
 z70:=Tryz.sizeOf273
 v70:=Tryz.zeroValue273
 t76:=Tryz.underlying276
 a76:=Tryz.isAgg276
 z76:=Tryz.sizeOf276
 v76:=Tryz.zeroValue276
 t77:=Tryz.underlying277
 a77:=Tryz.isAgg277
 z77:=Tryz.sizeOf277
 v77:=Tryz.zeroValue277
end Go.Proofs.YtpbpiehcchannaaGreatDoor
namespace Go.Proofs.YtpbpiehcchannaaGreatDoor
open Go.RowKit Go.Lib Go.Sort
set_option linter.unusedVariables false
set_option linter.unusedSimpArgs false
set_option maxRecDepth 100000
set_option maxHeartbeats 1500000
theorem run_bytesOf{P:Program}{w:World}{v:Value}{l:List UInt8}(h:BS w v l):(Extern.Bytes.bytesOf v).run P w= .ok (strOf l) w:=by
 obtain⟨a,n,c,rfl,h⟩:=h
 have hn:=h.len1
 cases a with
 | none=>
  have hc:=h.nil rfl
  have hle:=h.le
  have:l=[]:=List.eq_nil_of_length_eq_zero (by omega)
  subst this
  rfl
 | some ad=>
  have:=run_loadBytesX (P:=P) w (l.map fun b:UInt8=>(b.toNat:Int)) ad .empty fun j x hx=>by
   rw[List.getElem?_map] at hx
   obtain⟨b,hb,rfl⟩:=Option.map_eq_some_iff.1 hx
   exact h.cell ad rfl j (bv b) (by rw[bvs,List.getElem?_map,hb];rfl)
  rw[List.length_map,hn] at this
  show(Extern.Bytes.loadBytes ad n .empty).run P w=_
  rw[this]
  congr 1
  apply ByteArray.ext
  simp[strOf,bytesOf]
  rw[show((fun n:Int=>UInt8.ofNat n.toNat)∘fun b:UInt8=>(b.toNat:Int))=id from funext fun b=>by simp]
  exact List.map_id l
theorem compare_bs (w : World) (u v : Value) (a b : List UInt8) (hu : BS w u a) (hv : BS w v b) :
    Calls Tryz.prog 117 #[u,v] w fun e w'=>e= .returned (.int .i64 (compareBytes a b))∧w'=w:=by
 have hu':=run_bytesOf (P:=Tryz.prog) hu
 have hv':=run_bytesOf (P:=Tryz.prog) hv
 go_enter Tryz.func117,Tryz.ntmps117
 go_wp2
 have hc:(Extern.BytealgCompare.compare #[u,v]).run Tryz.prog w= .ok (.int .i64 (compareBytes a b)) w:=by
  show Sem.run Tryz.prog (do pure (goInt (Extern.BytealgCompare.cmp (←Extern.Bytes.bytesOf u) (←Extern.Bytes.bytesOf v)))) w=_
  simp only[Sem.run_bind,hu',hv',Result.andThen_ok,Sem.run_pure,cmp_eq,goInt]
  rfl
 rw[run_callFunc_extern Tryz.func162 (by kernel_rfl) (by kernel_rfl) (by kernel_rfl) (e:=Extern.BytealgCompare.compare) (by kernel_rfl),hc]
 simp only[Result.andThen]
 rw[Oper.upon_value]
 go_wp2
 go_ret
 exact⟨rfl,rfl⟩
def plA(q w:Nat):Nat×Nat→List AV:=fun x=>[.pl q w x.1 0 x.2]
def srtR(keys:List (List UInt8))(rs:List (Nat×Nat)):List (Nat×Nat):=((List.finRange rs.length).mergeSort fun i j=> !ltB (keys.getD j []) (keys.getD i [])).map fun i:Fin rs.length=>rs.getD i.val (0,0)
theorem srtR_len(keys:List (List UInt8))(rs:List (Nat×Nat)):(srtR keys rs).length=rs.length:=by simp[srtR,List.length_mergeSort]
theorem sw_heap{α:Type}[Inhabited α](enc:α→Value)(w:World)(blk m:Nat)(d:Array α)(os:Array Obj)(b:Nat)(hb:b≠blk)(hlt:b<w.heap.size):(sortWorld enc w blk 0 m d os).heap[b]? =w.heap[b]?:=by
 unfold sortWorld grow putRow mapBlock
 simp only
 rw[Array.getElem?_append_left (by simp;exact hlt),Array.getElem?_modify,if_neg (fun e=>hb e.symm)]
 rfl
theorem sw_blk{α:Type}[Inhabited α](enc:α→Value)(w:World)(blk m:Nat)(d:Array α)(os:Array Obj){cur:Array Value}{T:TypeId}{fz:Nat×Nat}(hc:w.heap[blk]? =some (.cells cur T fz)):(sortWorld enc w blk 0 m d os).heap[blk]? =some (.cells (putCells enc 0 d cur) T fz):=by
 have hlt:=(Array.getElem?_eq_some_iff.1 hc).1
 unfold sortWorld grow putRow mapBlock
 simp only
 rw[Array.getElem?_append_left (by simp;exact hlt),Array.getElem?_modify,if_pos rfl]
 show Option.map _ (w.heap[blk]?)=_
 rw[hc];rfl
theorem swo_key{n:Nat}(key:Fin n→List UInt8):SWO (ltOf fun i j:Fin n=>compareBytes (key i) (key j)) where
 irrefl i:=by unfold ltOf;rw[cmp_lt,ltB_irr]
 trans i j k h1 h2:=by unfold ltOf at*;rw[cmp_lt] at*;exact ltB_trans h1 h2
 ntrans i j k h1 h2:=by
  unfold ltOf at*
  rw[cmp_lt] at*
  cases q:ltB (key i) (key k) with
  | false=>rfl
  | true=>
   cases q2:ltB (key k) (key j) with
   | true=>have:=ltB_trans q q2;rw[this] at h1;cases h1
   | false=>have:=ltB_tri _ _ h2 q2;rw[←this,h1] at q;cases q
theorem sortf_vc (rs : List (Nat × Nat)) (ps keys : List (List UInt8)) (hlen : keys.length = rs.length) (hk : ∀ (i : Nat) (x : Nat × Nat) (k : List UInt8), rs[i]? = some x → keys[i]? = some k → ps[x.1]? = some k ∧ x.2 = k.length) (hnd : keys.Nodup) (hsz : rs.length ≤ 4194304) (n : Nat) (hn : n = rs.length) (vr wp : Nat) :
    Spec Tryz.prog 116 [.own 0 vr 1 0 n,.clo 117 []] [⟨vr,.row 1 (plA 1 wp) (0,0) rs⟩,⟨wp,.pool ps⟩] (pms (.tup []) [⟨vr,.row 1 (plA 1 wp) (0,0) (srtR keys rs)⟩,⟨wp,.pool ps⟩] []):=by
 subst hn
 intro w E cargs hr hargs
 simp only[reps,rep] at hargs
 obtain⟨v,vs,rfl,⟨hv1,hv⟩,fv,vs2,rfl,⟨cs,rfl,rfl⟩,rfl⟩:=hargs
 have he0:([⟨vr,.row 1 (plA 1 wp) (0,0) rs⟩,⟨wp,.pool ps⟩]:List Ent)[0]? =some ⟨vr,.row 1 (plA 1 wp) (0,0) rs⟩:=rfl
 have he1:([⟨vr,.row 1 (plA 1 wp) (0,0) rs⟩,⟨wp,.pool ps⟩]:List Ent)[1]? =some ⟨wp,.pool ps⟩:=rfl
 obtain⟨a,c,rfl,h2,h3,h4,h5⟩:=hv (hr.ver 0 _ he0).symm
 rcases Nat.eq_zero_or_pos rs.length with h0 | hpos
 ·have hrs:rs=[]:=List.eq_nil_of_length_eq_zero h0
  subst hrs
  refine(AnyF.slices_SortFunc_none {sortL with} a c (.func (.func 117) #[] #[]) w).mono fun e w'⟨h1,h2⟩=> ?_
  subst h2
  have hsr:srtR keys []=[]:=by simp[srtR]
  rw[hsr]
  exact⟨.tuple #[],.tup [],_,E,h1,⟨[],rfl,rfl,trivial⟩,by simp only[rep];exact⟨[],rfl,by simp only[reps]⟩,hr,Ext.refl _ _,fun z b h=> .inl h,Nat.le_refl _,fun r e b h hb=> .inr ⟨r,e,h,hb⟩,⟨rfl,rfl,rfl,Nat.le_refl _,fun _ _ _=>rfl,fun k cur T fz h=>⟨cur,T,fz,h,Nat.le_refl _⟩,fun r e b h hb _ hkp=>hkp r e h hb⟩⟩
 obtain⟨hna,rfl,_⟩:=h5.resolve_left (by omega)
 have hliv:Liv E 0 ⟨vr,.row 1 (plA 1 wp) (0,0) rs⟩:=⟨rfl,hna⟩
 obtain⟨cur,T,lo,hi,g1,g2,g3,g4⟩:=(hr.ent 0 _ he0 hliv).blk rfl
 have hblt:=hr.lt he0 hliv
 haveI:Inhabited (Fin rs.length):=⟨⟨0,hpos⟩⟩
 obtain⟨key,hkey⟩:∃key:Fin rs.length→List UInt8,∀i,key i=keys.getD i.val []:=⟨_,fun _=>rfl⟩
 have hel:∀i:Fin rs.length,∃u,cur[i.val]? =some u∧rep E w (.pl 1 wp (rs.getD i.val (0,0)).1 0 (rs.getD i.val (0,0)).2) u∧u.oneCell'=true∧∀W:World,(∀b,b≠E.ρ 0→b<w.heap.size→W.heap[b]? =w.heap[b]?)→BS W u (key i):=by
  intro i
  have hx:rs[i.val]? =some (rs.getD i.val (0,0)):=by rw[List.getD_eq_getElem?_getD,List.getElem?_eq_getElem i.isLt];rfl
  have hki:keys[i.val]? =some (key i):=by rw[hkey,List.getD_eq_getElem?_getD,List.getElem?_eq_getElem (by omega)];rfl
  obtain⟨q1,q2⟩:=hk i.val _ _ hx hki
  generalize rs.getD i.val (0,0)=x at hx q1 q2
  obtain⟨cs,k1,k2,k3⟩:=g4 i.val (plA 1 wp x) (by simp only[Bd.at];rw[hx];rfl)
  simp only[plA,reps] at k2
  obtain⟨u,us,rfl,k4,rfl⟩:=k2
  have k5:=k3 0 u rfl
  simp only[Bd.sz,Nat.mul_one,Nat.add_zero] at k5
  refine⟨u,k5,k4,?_,fun W hW=> ?_⟩
  ·simp only[rep] at k4
   obtain⟨a',c',e1,_⟩:=k4.2 (hr.ver 1 _ he1).symm
   rw[e1];rfl
  have hpl:x.1<ps.length:=(List.getElem?_eq_some_iff.1 q1).1
  have hgd:ps.getD x.1 []=key i:=by rw[List.getD_eq_getElem?_getD,q1];rfl
  have hb:=bs_of_pl hr he1 (off:=0) (n:=x.2) hpl rfl (by rw[hgd];omega) k4
  rw[hgd,List.drop_zero,q2,List.take_length] at hb
  simp only[rep] at k4
  obtain⟨a',c',e1,e2,e3,e4,e5⟩:=k4.2 (hr.ver 1 _ he1).symm
  obtain⟨a2,n2,c2,e6,hs⟩:=hb
  rw[e1] at e6
  cases e6
  rcases e5 with e5 | ⟨b,e5,e7,_⟩
  ·refine⟨a',x.2,c',e1,⟨hs.len,hs.le,hs.max,hs.nil,fun ad had j z hz=> ?_⟩⟩
   have hj:=(List.getElem?_eq_some_iff.1 hz).1
   rw[hs.len] at hj
   omega
  ·refine⟨a',x.2,c',e1,hs.keep fun ad had hlt=>hW ad.block (fun e=> ?_) hlt⟩
   rw[e7] at had
   cases had
   have:=hr.inj 0 1 _ _ b he0 he1 (.inl ⟨hliv,e.symm⟩) (.inr ⟨rfl,x.1,e5⟩)
   omega
 obtain⟨enc,henc⟩:∃enc:Fin rs.length→Value,∀i,cur[i.val]? =some (enc i)∧rep E w (.pl 1 wp (rs.getD i.val (0,0)).1 0 (rs.getD i.val (0,0)).2) (enc i)∧(enc i).oneCell'=true∧∀W:World,(∀b,b≠E.ρ 0→b<w.heap.size→W.heap[b]? =w.heap[b]?)→BS W (enc i) (key i):=⟨fun i=>Classical.choose (hel i),fun i=>Classical.choose_spec (hel i)⟩
 have hdl:((List.finRange rs.length).toArray).size=rs.length:=by simp
 have hcmp:CmpLays1 Tryz.prog 117 #[] enc (fun i j:Fin rs.length=>compareBytes (key i) (key j)) (E.ρ 0) 0 ((List.finRange rs.length).toArray).size w:=by
  intro m os dk hs x y
  have hW:∀b,b≠E.ρ 0→b<w.heap.size→(sortWorld enc w (E.ρ 0) 0 m dk os).heap[b]? =w.heap[b]?:=fun b h1 h2=>sw_heap enc w _ m dk os b h1 h2
  have:=compare_bs (sortWorld enc w (E.ρ 0) 0 m dk os) (enc x) (enc y) _ _ ((henc x).2.2.2 _ hW) ((henc y).2.2.2 _ hW)
  rw[Array.append_empty]
  exact this.mono fun e w' h=>⟨h.1,0,#[],by rw[h.2];simp[World.drewN]⟩
 have hH:Holds enc w (E.ρ 0) 0 (List.finRange rs.length).toArray:=by
  intro j hj
  rw[hdl] at hj
  have e:((List.finRange rs.length).toArray)[j]! =(⟨j,hj⟩:Fin rs.length):=by rw[getElem!_pos _ j (by simpa using hj)];simp
  rw[e]
  refine⟨by rw[cell_of_row w _ _ cur T (lo,hi) g1,Nat.zero_add];exact(henc ⟨j,hj⟩).1,?_⟩
  have hcz:j<cur.size:=(Array.getElem?_eq_some_iff.1 (henc ⟨j,hj⟩).1).1
  unfold World.frozen?
  simp only[g1,Bool.and_eq_false_iff,decide_eq_false_iff_not]
  omega
 have htot:∀x y:Fin rs.length,ltOf (fun i j:Fin rs.length=>compareBytes (key i) (key j)) x y=false→ltOf (fun i j:Fin rs.length=>compareBytes (key i) (key j)) y x=false→x=y:=by
  intro x y q1 q2
  unfold ltOf at q1 q2
  rw[cmp_lt] at q1 q2
  have e:=ltB_tri _ _ q1 q2
  rw[hkey,hkey] at e
  have:=(List.getElem_inj (xs:=keys) hnd (i:=x.val) (j:=y.val) (h₀:=by omega) (h₁:=by omega)).1 (by
   rw[List.getD_eq_getElem?_getD,List.getD_eq_getElem?_getD,List.getElem?_eq_getElem (by omega),List.getElem?_eq_getElem (by omega)] at e
   exact e)
  exact Fin.ext this
 have hcon:=Any.slices_SortFunc_total sortL enc (fun i=>(henc i).2.2.1) (fun i j:Fin rs.length=>compareBytes (key i) (key j)) (swo_key key) 117 #[] (E.ρ 0) 0 c (List.finRange rs.length).toArray w (fun args w=>Tryz.call117 args w) hcmp hH hblt (by rw[hdl];omega) htot
 rw[hdl] at hcon
 refine Calls.mono hcon fun e w'⟨h1,m,os,hw⟩=> ?_
 subst hw
 obtain⟨D,hD⟩:∃D,D=(List.finRange rs.length).mergeSort fun x y:Fin rs.length=> !ltOf (fun i j:Fin rs.length=>compareBytes (key i) (key j)) y x:=⟨_,rfl⟩
 rw[show(List.finRange rs.length).toArray.toList=List.finRange rs.length from rfl,←hD]
 have hDl:D.length=rs.length:=by rw[hD,List.length_mergeSort,List.length_finRange]
 have hsr:srtR keys rs=D.map fun i:Fin rs.length=>rs.getD i.val (0,0):=by
  rw[hD]
  unfold srtR
  congr 2
  funext x y
  unfold ltOf
  rw[cmp_lt,hkey,hkey]
 obtain⟨w',hw'⟩:∃w',w'=sortWorld enc w (E.ρ 0) 0 m D.toArray os:=⟨_,rfl⟩
 rw[←hw']
 have hoth:∀b,b≠E.ρ 0→b<w.heap.size→w'.heap[b]? =w.heap[b]?:=fun b q1 q2=>by rw[hw'];exact sw_heap enc w _ m _ os b q1 q2
 have hblk:w'.heap[E.ρ 0]? =some (.cells (putCells enc 0 D.toArray cur) T (lo,hi)):=by rw[hw'];exact sw_blk enc w _ m _ os g1
 have hsz':w.heap.size≤w'.heap.size:=by
  rw[hw'];unfold sortWorld grow;simp only[Array.size_append,size_putRow,heap_ahead];omega
 have hps:(putCells enc 0 D.toArray cur).size=cur.size:=by simp[putCells]
 have Xt:Ext E E w w':=by
  refine⟨fun _=>Nat.le_refl _,fun _ _=>rfl,fun _ _=>Iff.rfl,fun z b h=>h,fun z b h=>hoth b (fun e=>hr.zrowL 0 _ he0 hliv z (e▸h)) (hr.zlt z b h),fun k cur' T' fz h=> ?_,fun _ _ _ _ h=>h⟩
  by_cases q:k=E.ρ 0
  ·subst q
   rw[g1] at h
   cases h
   exact⟨_,_,_,hblk,by rw[hps];exact Nat.le_refl _⟩
  ·exact⟨cur',T',fz,by rw[hoth k q (Array.getElem?_eq_some_iff.1 h).1];exact h,Nat.le_refl _⟩
 have hput:∀(i:Nat)(hi:i<D.length),(putCells enc 0 D.toArray cur)[i]? =some (enc D[i]):=by
  intro i hi'
  have hc:i<cur.size:=by have:=(Array.getElem?_eq_some_iff.1 (henc ⟨i,by omega⟩).1).1;exact this
  have e1:D.toArray[i]! =D[i]:=by rw[getElem!_pos _ i (by simpa using hi')];simp
  unfold putCells
  rw[Array.getElem?_mapIdx,Array.getElem?_eq_getElem hc,Option.map_some,if_pos ⟨Nat.zero_le _,by simpa using hi'⟩,Nat.sub_zero,e1]
 have hgetH:∀(r:Nat)(e:Ent),([⟨vr,.row 1 (plA 1 wp) (0,0) (srtR keys rs)⟩,⟨wp,.pool ps⟩]:List Ent)[r]? =some e→(r=0∧e=⟨vr,.row 1 (plA 1 wp) (0,0) (srtR keys rs)⟩)∨(r=1∧e=⟨wp,.pool ps⟩):=by
  intro r e h
  match r,h with
  | 0,h=>cases h;exact .inl ⟨rfl,rfl⟩
  | 1,h=>cases h;exact .inr ⟨rfl,rfl⟩
  | r+2,h=>cases h
 have hblkH:∀(r:Nat)(e:Ent)(b:Nat),([⟨vr,.row 1 (plA 1 wp) (0,0) (srtR keys rs)⟩,⟨wp,.pool ps⟩]:List Ent)[r]? =some e→Blk E r e b→∃e0,([⟨vr,.row 1 (plA 1 wp) (0,0) rs⟩,⟨wp,.pool ps⟩]:List Ent)[r]? =some e0∧Blk E r e0 b:=by
  intro r e b h hb
  rcases hgetH r e h with⟨rfl,rfl⟩ | ⟨rfl,rfl⟩
  ·refine⟨_,he0,?_⟩
   rcases hb with⟨⟨_,q⟩,q2⟩ | ⟨q,_⟩
   ·exact .inl ⟨⟨rfl,q⟩,q2⟩
   ·cases q
  ·exact⟨_,he1,hb⟩
 refine⟨.tuple #[],.tup [],_,E,h1,⟨[],rfl,rfl,trivial⟩,by simp only[rep];exact⟨[],rfl,by simp only[reps]⟩,?_,Xt,fun z b h=> .inl h,Nat.le_refl _,fun r e b h hb=> .inr ⟨r,hblkH r e b h hb⟩,⟨?_,?_,?_,hsz',fun k hk' hkp=>hoth k (fun e=>hkp 0 _ he0 (.inl ⟨hliv,e.symm⟩)) hk',Xt.grow,fun r e b h hb _ hkp=> ?_⟩⟩
 ·refine⟨fun r e h=> ?_,fun r e h hl=> ?_,fun r e h ha=> ?_,fun r r' e e' b h h' hb hb'=> ?_,fun z b h=>Nat.lt_of_lt_of_le (hr.zlt z b h) hsz',fun r e b h hb=> ?_,fun r h=>hr.top r h,hr.gl.ext Xt,fun r v ls h=> ?_⟩
  ·rcases hgetH r e h with⟨rfl,rfl⟩ | ⟨rfl,rfl⟩
   ·exact hr.ver 0 ⟨vr,.row 1 (plA 1 wp) (0,0) rs⟩ he0
   ·exact hr.ver 1 _ he1
  ·rcases hgetH r e h with⟨rfl,rfl⟩ | ⟨rfl,rfl⟩
   ·refine⟨fun _=>⟨_,T,lo,hi,hblk,by rw[hps];exact g2,?_,fun i ys hy=> ?_⟩,by rintro _ _ _ ⟨⟩⟩
    ·simp only[Bd.count,Bd.sz,srtR_len,hps] at g3⊢;exact g3
    ·simp only[Bd.at] at hy
     obtain⟨x,hx,rfl⟩:=Option.map_eq_some_iff.1 hy
     rw[hsr,List.getElem?_map] at hx
     obtain⟨j,hj,rfl⟩:=Option.map_eq_some_iff.1 hx
     obtain⟨hi',rfl⟩:=List.getElem?_eq_some_iff.1 hj
     refine⟨[enc D[i]],rfl,?_,fun q u hq=> ?_⟩
     ·simp only[plA,reps]
      exact⟨_,[],rfl,rep_ext Xt _ _ (henc D[i]).2.1,rfl⟩
     ·cases q with
      | zero=>
       simp only[List.getElem?_cons_zero,Option.some.injEq] at hq
       subst hq
       simp only[Bd.sz,Nat.mul_one,Nat.add_zero]
       exact hput i hi'
      | succ q=>simp at hq
   ·cases hl.1
  ·rcases hgetH r e h with⟨rfl,rfl⟩ | ⟨rfl,rfl⟩
   ·exact absurd ha hna
   ·exact hr.abs 1 _ he1 ha
  ·obtain⟨e0,q1,q2⟩:=hblkH r e b h hb
   obtain⟨e1,q3,q4⟩:=hblkH r' e' b h' hb'
   exact hr.inj r r' e0 e1 b q1 q3 q2 q4
  ·obtain⟨e0,q1,q2⟩:=hblkH r e b h hb
   exact hr.zrow r e0 b q1 q2
  ·rcases hgetH r _ h with⟨rfl,h⟩ | ⟨rfl,h⟩
   ·cases h
   ·cases h
    have hp:=hr.pool 1 wp ps he1
    refine hp.cong fun i b hb=>hoth b (fun e=> ?_) (hp.lt hb)
    have:=hr.inj 0 1 _ _ b he0 he1 (.inl ⟨hliv,e.symm⟩) (.inr ⟨rfl,i,hb⟩)
    omega
 ·rw[hw'];rfl
 ·rw[hw'];rfl
 ·rw[hw'];rfl
 ·obtain⟨e0,q1,q2⟩:=hblkH r e b h hb
  exact hkp r e0 q1 q2
end Go.Proofs.YtpbpiehcchannaaGreatDoor
