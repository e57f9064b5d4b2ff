/- Walks of nvram: Keys. Conditions: none. -/
import Derived.Test.YtpbpiehcchannaaGreatDoorJHs
import Derived.Test.YtpbpiehcchannaaGreatDoorJHv
namespace Go.Proofs.YtpbpiehcchannaaGreatDoor
set_option linter.unusedVariables false
set_option linter.unusedSimpArgs false
set_option maxRecDepth 100000
set_option maxHeartbeats 1500000
open Go.RowKit
def ct(l:List Rc):List (Nat×Nat):=(cN l l.length).map fun r=>(r.i,r.kn)
def lg(l:List RK):List (List UInt8):=(b8 l).map fun r=>r.key
theorem DR(l:List Rc):(ct l).length=(cN l l.length).length:=List.length_map ..
theorem yC(l:List Rc):(lg (l.map aj)).length=(ct l).length:=by rw[DR,(cJ.kept l).len,lg,List.length_map]
theorem C4(l:List Rc)(i:Nat)(x:Nat×Nat)(k:List UInt8)(hx:(ct l)[i]? =some x)(hk:(lg (l.map aj))[i]? =some k):(dI l)[x.1]? =some k∧x.2=k.length:=by
 unfold ct at hx
 unfold lg at hk
 rw[List.getElem?_map] at hx hk
 obtain⟨r,hr,rfl⟩:=Option.map_eq_some_iff.1 hx
 obtain⟨y,hy,rfl⟩:=Option.map_eq_some_iff.1 hk
 obtain⟨y1,y2,_⟩:=(cJ.kept l).el i r y hr hy
 exact⟨y1,y2⟩
theorem J8(l:List RK):(lg l).Nodup:=by
 unfold lg b8
 rw[List.map_map]
 refine List.Pairwise.map _ ?_ (List.Pairwise.and_mem.1 (List.nodup_range (n:=l.length) |>.sublist List.filter_sublist:(dA l l.length).Nodup))
 rintro a b ⟨ha,hb,aG⟩ e
 have h1:=of_decide_eq_true (List.mem_filter.1 ha).2
 have h2:=of_decide_eq_true (List.mem_filter.1 hb).2
 simp only[Function.comp_apply] at e
 rw[e,h2] at h1
 exact aG (by omega)
theorem Pz {W : Int} {n k : Nat} (s : U) (c : Nat) (g : aw W n k s) (pa : aA n k 0 c) (pb : aA n k c c) (hd : s.dd = false) (hi : (s.a8 c).1 = 0) {l : List Rc} {e : Nat} {b : Bool} (hS : s.scan 0 c = (l, e, b)) (vs va vb v0 v1 : Nat) : Spec Tryz.prog 72 [.ref 0 vs 3 0 0] [⟨vs, .obj [.ref 3 v0 6 0 0, .ref 1 va 3 0 0, .ref 2 vb 3 0 0]⟩, ⟨va, .obj [.ref 3 v0 6 0 0, .val (.int .i64 ((0 : Nat) : Int)), .val (.int .i64 (c : Int))]⟩, ⟨vb, .obj [.ref 3 v0 6 0 0, .val (.int .i64 (c : Int)), .val (.int .i64 (c : Int))]⟩, ⟨v0, .obj [.own 4 v1 1 0 s.l.length, .val (.int .i64 (s.k : Int)), .val (.int .i64 s.ar), .val (.int .i64 s.pt), .val (.bool s.dd), .val (.int .i64 s.wr)]⟩, ⟨v1, .bytes s.l⟩]
   (ak (.aD [.own 33 ((ct l).length+1) 1 0 (ct l).length,.val (.int .i64 0)]) [⟨vs,.obj [.ref 3 v0 6 0 0,.ref 1 va 3 0 0,.ref 2 vb 3 0 0]⟩,⟨va,.obj [.ref 3 v0 6 0 0,.val (.int .i64 ((0:Nat):Int)),.val (.int .i64 (c:Int))]⟩,⟨vb,.obj [.ref 3 v0 6 0 0,.val (.int .i64 (c:Int)),.val (.int .i64 (c:Int))]⟩,⟨v0,.obj [.own 4 v1 1 0 s.l.length,.val (.int .i64 (s.k:Int)),.val (.int .i64 s.ar),.val (.int .i64 s.pt),.val (.bool s.dd),.val (.int .i64 s.wr)]⟩,⟨v1,.bytes s.l⟩] [(33,⟨(ct l).length+1,.row 1 (fT 21 4) (0,0) (kf (lg (l.map aj)) (ct l))⟩),(21,⟨4,.az (dI l)⟩)]):=by
 (
 have cG:=fI g pa hS
 have k7:=jH g pa hS
 have fR:=nC s c g pa pb hd hi l e b hS vs va vb v0 v1
 have bH:=vT (l.map aj) l.length
 have hK:(ct l).length=(cN l l.length).length:=DR l
 have DS:(ct l).length≤4194304:=by rw[hK,ox];omega
 refine ax ai Tryz.func72 rfl Tryz.ntmps72 Tryz.results72 ?_
 refine gg ?_
 refine af (fR) Tryz.call77 (he:=⟨fun _=>⟨rfl,rfl,trivial,trivial⟩,trivial,fun _=>⟨rfl,rfl,trivial,trivial⟩,trivial⟩) 5 [0,1,2,3,4,0,0,0,0,0,0,0,0,0,0,0,0,0,0,0,0,0,0,0,0,0,0,0,0,0,20,21,22] [0,0,0,0,0,0,0,0,0,0,0,0,0,0,0,0,0,0,0,0,0,0,0,0,0,0,0,0,0,0,1,1,1] [30,31,32] ?_
 refine gg ?_
 (refine aH ?_)
 conv=>whnf
 refine qK (lH 33 1 (.row 1 (fT 21 4) (0,0) []) rfl (by decide) rfl (t':=[.any,.any,.any,.any,.any,.any,.own 33 1 1 0 0,.any,.any,.any,.any,.any,.any,.any,.any,.any,.any,.any,.own 22 4 3 0 (cN l l.length).length,.val (.int .i64 ((cN l l.length).length:Int)),.val (.int .i64 0),.any,.any,.any,.any,.any,.any,.any,.any,.any,.any,.any,.any]) ?_) ?_
 ·simp[jz,bc,aJ,aM,bu,dO,bF,bb,eF,dg,cL]
 dsimp only[aJ]
 refine cE (fun i:Nat=>i≤(ct l).length) (fun i=>(ct l).length - i) 5 [6,8,20,21,22,23,24,25,26,27,28,29] (fun i=>[(6,.own 33 (i+1) 1 0 i),(20,.val (.int .i64 (i:Int)))])
  (fun i=>[(33,⟨i+1,.row 1 (fT 21 4) (0,0) ((ct l).take i)⟩)]) 0 (Nat.zero_le _) ?_ ?_ ?_
 ·exact no_implicit_lambda%ten
 ·exact no_implicit_lambda%b6
 ·rintro i v i1
  refine cF ?_
  refine gg ?_
  refine⟨fun h=> ?_,fun h=> ?_⟩
  ·have ah:i< (ct l).length:=by have:=of_decide_eq_true h;omega
   obtain⟨x,hx⟩:∃x,(cN l l.length)[i]? =some x:=⟨_,List.getElem?_eq_getElem (by omega)⟩
   have hg:(cN l l.length).getD i ⟨0,0,0,false⟩=x:=by rw[List.getD_eq_getElem?_getD,hx];rfl
   have hT:(ct l).take (i+1)=(ct l).take i++[(x.i,x.kn)]:=by
    rw[List.take_succ_eq_append_getElem ah]
    congr 2
    unfold ct at ah⊢
    rw[List.getElem_map]
    rw[List.getElem?_eq_getElem (by simpa using ah)] at hx
    rw[Option.some.inj hx]
   have wo:((ct l).take i).length=i:=by rw[List.length_take];omega
   have tq:((ct l).take (i+1)).length=i+1:=by rw[List.length_take];omega
   refine gg ?_
   simp only[Int.toNat_natCast,Nat.zero_add]
   have gU:i< (cN l l.length).length:=by omega
   (conv=>whnf)
   refine And.intro ⟨rfl,⟨rfl,gU⟩,Nat.le_of_ble_eq_true rfl⟩ ?_
   rw[hg]
   refine gg ?_
   refine⟨Nat×Nat,fT 21 4,(0,0),(ct l).take (i+1),?_⟩
   conv=>whnf
   refine And.intro ⟨rfl,⟨rfl,rfl,Nat.le_refl _,fun q hq=>(by(have jf:q=0:=by simpa using hq);subst jf;exact⟨rfl,trivial⟩)⟩,rfl,rfl,rfl,wo.symm,.inr rfl,(by rw[hT,List.map_append];rfl),by show _*24≤_;omega,by decide⟩ ?_
   rw[tq]
   refine gg ?_
   exact bk (i+1) ah (by show(ct l).length - (i+1)< (ct l).length - i;omega)
  ·obtain rfl:i=(ct l).length:=by have:=of_decide_eq_false h;omega
   rw[List.take_length]
   refine gg ?_
   refine af (IC (ct l) (dI l) (lg (l.map aj)) (yC l) (C4 l) (J8 _) DS (ct l).length rfl ((ct l).length+1) 4) Tryz.call116 (hrows:=⟨⟨fun _=>⟨Nat.lt_succ_self 1,trivial⟩,rfl⟩,⟨trivial,rfl⟩,trivial⟩) (hr2:=⟨fun _=>⟨rfl,trivial⟩,trivial,trivial⟩) 2 [33,21] [0,0] [] ?_
   refine gg ?_
   exact⟨_,rfl,rfl,rfl,rfl,trivial⟩)
theorem PA {W : Int} {n k : Nat} (s : U) (c : Nat) (g : aw W n k s) (pa : aA n k 0 c) (pb : aA n k c c) (hd : s.dd = false) (hi : (s.a8 c).1 = 1) {l : List Rc} {e : Nat} {b : Bool} (hS : s.scan c c = (l, e, b)) (vs va vb v0 v1 : Nat) : Spec Tryz.prog 72 [.ref 0 vs 3 0 0] [⟨vs, .obj [.ref 3 v0 6 0 0, .ref 1 va 3 0 0, .ref 2 vb 3 0 0]⟩, ⟨va, .obj [.ref 3 v0 6 0 0, .val (.int .i64 ((0 : Nat) : Int)), .val (.int .i64 (c : Int))]⟩, ⟨vb, .obj [.ref 3 v0 6 0 0, .val (.int .i64 (c : Int)), .val (.int .i64 (c : Int))]⟩, ⟨v0, .obj [.own 4 v1 1 0 s.l.length, .val (.int .i64 (s.k : Int)), .val (.int .i64 s.ar), .val (.int .i64 s.pt), .val (.bool s.dd), .val (.int .i64 s.wr)]⟩, ⟨v1, .bytes s.l⟩]
   (ak (.aD [.own 33 ((ct l).length+1) 1 0 (ct l).length,.val (.int .i64 0)]) [⟨vs,.obj [.ref 3 v0 6 0 0,.ref 1 va 3 0 0,.ref 2 vb 3 0 0]⟩,⟨va,.obj [.ref 3 v0 6 0 0,.val (.int .i64 ((0:Nat):Int)),.val (.int .i64 (c:Int))]⟩,⟨vb,.obj [.ref 3 v0 6 0 0,.val (.int .i64 (c:Int)),.val (.int .i64 (c:Int))]⟩,⟨v0,.obj [.own 4 v1 1 0 s.l.length,.val (.int .i64 (s.k:Int)),.val (.int .i64 s.ar),.val (.int .i64 s.pt),.val (.bool s.dd),.val (.int .i64 s.wr)]⟩,⟨v1,.bytes s.l⟩] [(33,⟨(ct l).length+1,.row 1 (fT 21 4) (0,0) (kf (lg (l.map aj)) (ct l))⟩),(21,⟨4,.az (dI l)⟩)]):=by
 (
 have cG:=fI g pb hS
 have k7:=jH g pb hS
 have fR:=nD s c g pa pb hd hi l e b hS vs va vb v0 v1
 have bH:=vT (l.map aj) l.length
 have hK:(ct l).length=(cN l l.length).length:=DR l
 have DS:(ct l).length≤4194304:=by rw[hK,ox];omega
 refine ax ai Tryz.func72 rfl Tryz.ntmps72 Tryz.results72 ?_
 refine gg ?_
 refine af (fR) Tryz.call77 (he:=⟨fun _=>⟨rfl,rfl,trivial,trivial⟩,trivial,fun _=>⟨rfl,rfl,trivial,trivial⟩,trivial⟩) 5 [0,1,2,3,4,0,0,0,0,0,0,0,0,0,0,0,0,0,0,0,0,0,0,0,0,0,0,0,0,0,20,21,22] [0,0,0,0,0,0,0,0,0,0,0,0,0,0,0,0,0,0,0,0,0,0,0,0,0,0,0,0,0,0,1,1,1] [30,31,32] ?_
 refine gg ?_
 (refine aH ?_)
 conv=>whnf
 refine qK (lH 33 1 (.row 1 (fT 21 4) (0,0) []) rfl (by decide) rfl (t':=[.any,.any,.any,.any,.any,.any,.own 33 1 1 0 0,.any,.any,.any,.any,.any,.any,.any,.any,.any,.any,.any,.own 22 4 3 0 (cN l l.length).length,.val (.int .i64 ((cN l l.length).length:Int)),.val (.int .i64 0),.any,.any,.any,.any,.any,.any,.any,.any,.any,.any,.any,.any]) ?_) ?_
 ·simp[jz,bc,aJ,aM,bu,dO,bF,bb,eF,dg,cL]
 dsimp only[aJ]
 refine cE (fun i:Nat=>i≤(ct l).length) (fun i=>(ct l).length - i) 5 [6,8,20,21,22,23,24,25,26,27,28,29] (fun i=>[(6,.own 33 (i+1) 1 0 i),(20,.val (.int .i64 (i:Int)))])
  (fun i=>[(33,⟨i+1,.row 1 (fT 21 4) (0,0) ((ct l).take i)⟩)]) 0 (Nat.zero_le _) ?_ ?_ ?_
 ·exact no_implicit_lambda%ten
 ·exact no_implicit_lambda%b6
 ·rintro i v i1
  refine cF ?_
  refine gg ?_
  refine⟨fun h=> ?_,fun h=> ?_⟩
  ·have ah:i< (ct l).length:=by have:=of_decide_eq_true h;omega
   obtain⟨x,hx⟩:∃x,(cN l l.length)[i]? =some x:=⟨_,List.getElem?_eq_getElem (by omega)⟩
   have hg:(cN l l.length).getD i ⟨0,0,0,false⟩=x:=by rw[List.getD_eq_getElem?_getD,hx];rfl
   have hT:(ct l).take (i+1)=(ct l).take i++[(x.i,x.kn)]:=by
    rw[List.take_succ_eq_append_getElem ah]
    congr 2
    unfold ct at ah⊢
    rw[List.getElem_map]
    rw[List.getElem?_eq_getElem (by simpa using ah)] at hx
    rw[Option.some.inj hx]
   have wo:((ct l).take i).length=i:=by rw[List.length_take];omega
   have tq:((ct l).take (i+1)).length=i+1:=by rw[List.length_take];omega
   refine gg ?_
   simp only[Int.toNat_natCast,Nat.zero_add]
   have gU:i< (cN l l.length).length:=by omega
   (conv=>whnf)
   refine And.intro ⟨rfl,⟨rfl,gU⟩,Nat.le_of_ble_eq_true rfl⟩ ?_
   rw[hg]
   refine gg ?_
   refine⟨Nat×Nat,fT 21 4,(0,0),(ct l).take (i+1),?_⟩
   conv=>whnf
   refine And.intro ⟨rfl,⟨rfl,rfl,Nat.le_refl _,fun q hq=>(by(have jf:q=0:=by simpa using hq);subst jf;exact⟨rfl,trivial⟩)⟩,rfl,rfl,rfl,wo.symm,.inr rfl,(by rw[hT,List.map_append];rfl),by show _*24≤_;omega,by decide⟩ ?_
   rw[tq]
   refine gg ?_
   exact bk (i+1) ah (by show(ct l).length - (i+1)< (ct l).length - i;omega)
  ·obtain rfl:i=(ct l).length:=by have:=of_decide_eq_false h;omega
   rw[List.take_length]
   refine gg ?_
   refine af (IC (ct l) (dI l) (lg (l.map aj)) (yC l) (C4 l) (J8 _) DS (ct l).length rfl ((ct l).length+1) 4) Tryz.call116 (hrows:=⟨⟨fun _=>⟨Nat.lt_succ_self 1,trivial⟩,rfl⟩,⟨trivial,rfl⟩,trivial⟩) (hr2:=⟨fun _=>⟨rfl,trivial⟩,trivial,trivial⟩) 2 [33,21] [0,0] [] ?_
   refine gg ?_
   exact⟨_,rfl,rfl,rfl,rfl,trivial⟩)
end Go.Proofs.YtpbpiehcchannaaGreatDoor
