/- Walks of nvram: Keys. Conditions: none. -/
import Derived.Test.YtpbpiehcchannaaGreatDoorJHs
import Derived.Test.YtpbpiehcchannaaGreatDoorJHv
namespace Go.Proofs.YtpbpiehcchannaaGreatDoor
open Go.RowKit
set_option linter.unusedVariables false
set_option linter.unusedSimpArgs false
set_option maxRecDepth 100000
set_option maxHeartbeats 1500000
def bZ(l:List Rc):List (Nat×Nat):=(cB l l.length).map fun r=>(r.i,r.kn)
def gQ(l:List RK):List (List UInt8):=(bm l).map fun r=>r.key
theorem Ay(l:List Rc):(bZ l).length=(cB l l.length).length:=List.length_map ..
theorem vJ(l:List Rc):(gQ (l.map an)).length=(bZ l).length:=by rw[Ay,(ct.kept l).len,gQ,List.length_map]
theorem zO(l:List Rc)(i:Nat)(x:Nat×Nat)(k:List UInt8)(hx:(bZ l)[i]? =some x)(hk:(gQ (l.map an))[i]? =some k):(cV l)[x.1]? =some k∧x.2=k.length:=by
 unfold bZ at hx
 unfold gQ at hk
 rw[List.getElem?_map] at hx hk
 obtain⟨r,hr,rfl⟩:=Option.map_eq_some_iff.1 hx
 obtain⟨y,hy,rfl⟩:=Option.map_eq_some_iff.1 hk
 obtain⟨y1,y2,_⟩:=(ct.kept l).el i r y hr hy
 exact⟨y1,y2⟩
theorem wg(l:List RK):(gQ l).Nodup:=by
 unfold gQ bm
 rw[List.map_map]
 refine List.Pairwise.map _ ?_ (List.Pairwise.and_mem.1 (List.nodup_range (n:=l.length) |>.sublist List.filter_sublist:(dI l l.length).Nodup))
 rintro a b ⟨ha,hb,aF⟩ e
 have h1:=of_decide_eq_true (List.mem_filter.1 ha).2
 have h2:=of_decide_eq_true (List.mem_filter.1 hb).2
 simp only[Function.comp_apply] at e
 rw[e,h2] at h1
 exact aF (by omega)
theorem Ln {W : Int} {n k : Nat} (s : J) (c : Nat) (g : av W n k s) (pa : aC n k 0 c) (pb : aC n k c c) (hd : s.dd = false) (hi : (s.aI c).1 = 0) {l : List Rc} {e : Nat} {b : Bool} (hS : s.scan 0 c = (l, e, b)) (vs va vb v0 v1 : Nat) : Spec Tryz.prog 72 [.ref 0 vs 3 0 0] [⟨vs, .obj [.ref 3 v0 6 0 0, .ref 1 va 3 0 0, .ref 2 vb 3 0 0]⟩, ⟨va, .obj [.ref 3 v0 6 0 0, .val (.int .i64 ((0 : Nat) : Int)), .val (.int .i64 (c : Int))]⟩, ⟨vb, .obj [.ref 3 v0 6 0 0, .val (.int .i64 (c : Int)), .val (.int .i64 (c : Int))]⟩, ⟨v0, .obj [.own 4 v1 1 0 s.l.length, .val (.int .i64 (s.k : Int)), .val (.int .i64 s.ar), .val (.int .i64 s.pt), .val (.bool s.dd), .val (.int .i64 s.wr)]⟩, ⟨v1, .bytes s.l⟩]
   (ak (.al [.own 33 ((bZ l).length+1) 1 0 (bZ l).length,.val (.int .i64 0)]) [⟨vs,.obj [.ref 3 v0 6 0 0,.ref 1 va 3 0 0,.ref 2 vb 3 0 0]⟩,⟨va,.obj [.ref 3 v0 6 0 0,.val (.int .i64 ((0:Nat):Int)),.val (.int .i64 (c:Int))]⟩,⟨vb,.obj [.ref 3 v0 6 0 0,.val (.int .i64 (c:Int)),.val (.int .i64 (c:Int))]⟩,⟨v0,.obj [.own 4 v1 1 0 s.l.length,.val (.int .i64 (s.k:Int)),.val (.int .i64 s.ar),.val (.int .i64 s.pt),.val (.bool s.dd),.val (.int .i64 s.wr)]⟩,⟨v1,.bytes s.l⟩] [(33,⟨(bZ l).length+1,.row 1 (fe 21 4) (0,0) (jl (gQ (l.map an)) (bZ l))⟩),(21,⟨4,.aB (cV l)⟩)]):=by
 (
 have b9:=eB g pa hS
 have jm:=ja g pa hS
 have ff:=l8 s c g pa pb hd hi l e b hS vs va vb v0 v1
 have cE:=rf (l.map an) l.length
 have hK:(bZ l).length=(cB l l.length).length:=Ay l
 have tE:(bZ l).length≤4194304:=by rw[hK,mS];omega
 refine aq aj Tryz.func72 rfl Tryz.ntmps72 Tryz.results72 ?_
 refine gg (k:= ?_)
 refine ae (ff) Tryz.call77 (he:=⟨fun _=>⟨rfl,rfl,trivial,trivial⟩,trivial,fun _=>⟨rfl,rfl,trivial,trivial⟩,trivial⟩) 5 [0,1,2,3,4,0,0,0,0,0,0,0,0,0,0,0,0,0,0,0,0,0,0,0,0,0,0,0,0,0,20,21,22] [0,0,0,0,0,0,0,0,0,0,0,0,0,0,0,0,0,0,0,0,0,0,0,0,0,0,0,0,0,0,1,1,1] [30,31,32] ?_
 refine gg (k:= ?_)
 (refine ax (k:= ?_))
 conv=>whnf
 refine lW (ia 33 1 (.row 1 (fe 21 4) (0,0) []) rfl (by decide) rfl (t':=[.any,.any,.any,.any,.any,.any,.own 33 1 1 0 0,.any,.any,.any,.any,.any,.any,.any,.any,.any,.any,.any,.own 22 4 3 0 (cB l l.length).length,.val (.int .i64 ((cB l l.length).length:Int)),.val (.int .i64 0),.any,.any,.any,.any,.any,.any,.any,.any,.any,.any,.any,.any]) ?_) ?_
 ·simp[iz,aV,aH,aK,aZ,dB,bn,aT,dO,cN,cx]
 dsimp only[aH]
 refine bh (fun i:Nat=>i≤(bZ l).length) (fun i=>(bZ l).length - i) 5 [6,8,20,21,22,23,24,25,26,27,28,29] (fun i=>[(6,.own 33 (i+1) 1 0 i),(20,.val (.int .i64 (i:Int)))])
  (fun i=>[(33,⟨i+1,.row 1 (fe 21 4) (0,0) ((bZ l).take i)⟩)]) 0 (Nat.zero_le _) ?_ ?_ ?_
 ·exact no_implicit_lambda%ten
 ·exact no_implicit_lambda%az
 ·rintro i v i1
  refine bc (k:= ?_)
  refine gg (k:= ?_)
  refine⟨fun h=> ?_,fun h=> ?_⟩
  ·have ai:i< (bZ l).length:=by have:=of_decide_eq_true h;omega
   obtain⟨x,hx⟩:∃x,(cB l l.length)[i]? =some x:=⟨_,List.getElem?_eq_getElem (by omega)⟩
   have hg:(cB l l.length).getD i ⟨0,0,0,false⟩=x:=by rw[List.getD_eq_getElem?_getD,hx];rfl
   have hT:(bZ l).take (i+1)=(bZ l).take i++[(x.i,x.kn)]:=by
    rw[List.take_succ_eq_append_getElem ai]
    congr 2
    unfold bZ at ai⊢
    rw[List.getElem_map]
    rw[List.getElem?_eq_getElem (by simpa using ai)] at hx
    rw[Option.some.inj hx]
   have Az:((bZ l).take i).length=i:=by rw[List.length_take];omega
   have tf:((bZ l).take (i+1)).length=i+1:=by rw[List.length_take];omega
   refine gg (k:= ?_)
   simp only[Int.toNat_natCast,Nat.zero_add]
   have fq:i< (cB l l.length).length:=by omega
   (conv=>whnf)
   refine And.intro ⟨rfl,⟨rfl,fq⟩,Nat.le_of_ble_eq_true rfl⟩ ?_
   rw[hg]
   refine gg (k:= ?_)
   refine⟨Nat×Nat,fe 21 4,(0,0),(bZ l).take (i+1),?_⟩
   conv=>whnf
   refine And.intro ⟨rfl,⟨rfl,rfl,Nat.le_refl _,fun q hq=>(by(have ig:q=0:=by simpa using hq);subst ig;exact⟨rfl,trivial⟩)⟩,rfl,rfl,rfl,Az.symm,.inr rfl,(by rw[hT,List.map_append];rfl),by show _*24≤_;omega,by decide⟩ ?_
   rw[tf]
   refine gg (k:= ?_)
   refine aM (i+1) ai (by show(bZ l).length - (i+1)< (bZ l).length - i;omega) ?_ ?_
   ·exact no_implicit_lambda%ten
   ·exact no_implicit_lambda%az
  ·obtain rfl:i=(bZ l).length:=by have:=of_decide_eq_false h;omega
   rw[List.take_length]
   refine gg (k:= ?_)
   refine ae (Fv (bZ l) (cV l) (gQ (l.map an)) (vJ l) (zO l) (wg _) tE (bZ l).length rfl ((bZ l).length+1) 4) Tryz.call116 (hrows:=⟨⟨fun _=>⟨Nat.lt_succ_self 1,trivial⟩,rfl⟩,⟨trivial,rfl⟩,trivial⟩) (hr2:=⟨fun _=>⟨rfl,trivial⟩,trivial,trivial⟩) 2 [33,21] [0,0] [] ?_
   refine gg (k:= ?_)
   exact⟨_,rfl,rfl,rfl,rfl,trivial⟩)
theorem Lo {W : Int} {n k : Nat} (s : J) (c : Nat) (g : av W n k s) (pa : aC n k 0 c) (pb : aC n k c c) (hd : s.dd = false) (hi : (s.aI c).1 = 1) {l : List Rc} {e : Nat} {b : Bool} (hS : s.scan c c = (l, e, b)) (vs va vb v0 v1 : Nat) : Spec Tryz.prog 72 [.ref 0 vs 3 0 0] [⟨vs, .obj [.ref 3 v0 6 0 0, .ref 1 va 3 0 0, .ref 2 vb 3 0 0]⟩, ⟨va, .obj [.ref 3 v0 6 0 0, .val (.int .i64 ((0 : Nat) : Int)), .val (.int .i64 (c : Int))]⟩, ⟨vb, .obj [.ref 3 v0 6 0 0, .val (.int .i64 (c : Int)), .val (.int .i64 (c : Int))]⟩, ⟨v0, .obj [.own 4 v1 1 0 s.l.length, .val (.int .i64 (s.k : Int)), .val (.int .i64 s.ar), .val (.int .i64 s.pt), .val (.bool s.dd), .val (.int .i64 s.wr)]⟩, ⟨v1, .bytes s.l⟩]
   (ak (.al [.own 33 ((bZ l).length+1) 1 0 (bZ l).length,.val (.int .i64 0)]) [⟨vs,.obj [.ref 3 v0 6 0 0,.ref 1 va 3 0 0,.ref 2 vb 3 0 0]⟩,⟨va,.obj [.ref 3 v0 6 0 0,.val (.int .i64 ((0:Nat):Int)),.val (.int .i64 (c:Int))]⟩,⟨vb,.obj [.ref 3 v0 6 0 0,.val (.int .i64 (c:Int)),.val (.int .i64 (c:Int))]⟩,⟨v0,.obj [.own 4 v1 1 0 s.l.length,.val (.int .i64 (s.k:Int)),.val (.int .i64 s.ar),.val (.int .i64 s.pt),.val (.bool s.dd),.val (.int .i64 s.wr)]⟩,⟨v1,.bytes s.l⟩] [(33,⟨(bZ l).length+1,.row 1 (fe 21 4) (0,0) (jl (gQ (l.map an)) (bZ l))⟩),(21,⟨4,.aB (cV l)⟩)]):=by
 (
 have b9:=eB g pb hS
 have jm:=ja g pb hS
 have ff:=l9 s c g pa pb hd hi l e b hS vs va vb v0 v1
 have cE:=rf (l.map an) l.length
 have hK:(bZ l).length=(cB l l.length).length:=Ay l
 have tE:(bZ l).length≤4194304:=by rw[hK,mS];omega
 refine aq aj Tryz.func72 rfl Tryz.ntmps72 Tryz.results72 ?_
 refine gg (k:= ?_)
 refine ae (ff) Tryz.call77 (he:=⟨fun _=>⟨rfl,rfl,trivial,trivial⟩,trivial,fun _=>⟨rfl,rfl,trivial,trivial⟩,trivial⟩) 5 [0,1,2,3,4,0,0,0,0,0,0,0,0,0,0,0,0,0,0,0,0,0,0,0,0,0,0,0,0,0,20,21,22] [0,0,0,0,0,0,0,0,0,0,0,0,0,0,0,0,0,0,0,0,0,0,0,0,0,0,0,0,0,0,1,1,1] [30,31,32] ?_
 refine gg (k:= ?_)
 (refine ax (k:= ?_))
 conv=>whnf
 refine lW (ia 33 1 (.row 1 (fe 21 4) (0,0) []) rfl (by decide) rfl (t':=[.any,.any,.any,.any,.any,.any,.own 33 1 1 0 0,.any,.any,.any,.any,.any,.any,.any,.any,.any,.any,.any,.own 22 4 3 0 (cB l l.length).length,.val (.int .i64 ((cB l l.length).length:Int)),.val (.int .i64 0),.any,.any,.any,.any,.any,.any,.any,.any,.any,.any,.any,.any]) ?_) ?_
 ·simp[iz,aV,aH,aK,aZ,dB,bn,aT,dO,cN,cx]
 dsimp only[aH]
 refine bh (fun i:Nat=>i≤(bZ l).length) (fun i=>(bZ l).length - i) 5 [6,8,20,21,22,23,24,25,26,27,28,29] (fun i=>[(6,.own 33 (i+1) 1 0 i),(20,.val (.int .i64 (i:Int)))])
  (fun i=>[(33,⟨i+1,.row 1 (fe 21 4) (0,0) ((bZ l).take i)⟩)]) 0 (Nat.zero_le _) ?_ ?_ ?_
 ·exact no_implicit_lambda%ten
 ·exact no_implicit_lambda%az
 ·rintro i v i1
  refine bc (k:= ?_)
  refine gg (k:= ?_)
  refine⟨fun h=> ?_,fun h=> ?_⟩
  ·have ai:i< (bZ l).length:=by have:=of_decide_eq_true h;omega
   obtain⟨x,hx⟩:∃x,(cB l l.length)[i]? =some x:=⟨_,List.getElem?_eq_getElem (by omega)⟩
   have hg:(cB l l.length).getD i ⟨0,0,0,false⟩=x:=by rw[List.getD_eq_getElem?_getD,hx];rfl
   have hT:(bZ l).take (i+1)=(bZ l).take i++[(x.i,x.kn)]:=by
    rw[List.take_succ_eq_append_getElem ai]
    congr 2
    unfold bZ at ai⊢
    rw[List.getElem_map]
    rw[List.getElem?_eq_getElem (by simpa using ai)] at hx
    rw[Option.some.inj hx]
   have Az:((bZ l).take i).length=i:=by rw[List.length_take];omega
   have tf:((bZ l).take (i+1)).length=i+1:=by rw[List.length_take];omega
   refine gg (k:= ?_)
   simp only[Int.toNat_natCast,Nat.zero_add]
   have fq:i< (cB l l.length).length:=by omega
   (conv=>whnf)
   refine And.intro ⟨rfl,⟨rfl,fq⟩,Nat.le_of_ble_eq_true rfl⟩ ?_
   rw[hg]
   refine gg (k:= ?_)
   refine⟨Nat×Nat,fe 21 4,(0,0),(bZ l).take (i+1),?_⟩
   conv=>whnf
   refine And.intro ⟨rfl,⟨rfl,rfl,Nat.le_refl _,fun q hq=>(by(have ig:q=0:=by simpa using hq);subst ig;exact⟨rfl,trivial⟩)⟩,rfl,rfl,rfl,Az.symm,.inr rfl,(by rw[hT,List.map_append];rfl),by show _*24≤_;omega,by decide⟩ ?_
   rw[tf]
   refine gg (k:= ?_)
   refine aM (i+1) ai (by show(bZ l).length - (i+1)< (bZ l).length - i;omega) ?_ ?_
   ·exact no_implicit_lambda%ten
   ·exact no_implicit_lambda%az
  ·obtain rfl:i=(bZ l).length:=by have:=of_decide_eq_false h;omega
   rw[List.take_length]
   refine gg (k:= ?_)
   refine ae (Fv (bZ l) (cV l) (gQ (l.map an)) (vJ l) (zO l) (wg _) tE (bZ l).length rfl ((bZ l).length+1) 4) Tryz.call116 (hrows:=⟨⟨fun _=>⟨Nat.lt_succ_self 1,trivial⟩,rfl⟩,⟨trivial,rfl⟩,trivial⟩) (hr2:=⟨fun _=>⟨rfl,trivial⟩,trivial,trivial⟩) 2 [33,21] [0,0] [] ?_
   refine gg (k:= ?_)
   exact⟨_,rfl,rfl,rfl,rfl,trivial⟩)
theorem NN (s : J) (c : Nat) (hd : s.dd = true) (vs va vb v0 v1 : Nat) : Spec Tryz.prog 72 [.ref 0 vs 3 0 0] [⟨vs, .obj [.ref 3 v0 6 0 0, .ref 1 va 3 0 0, .ref 2 vb 3 0 0]⟩, ⟨va, .obj [.ref 3 v0 6 0 0, .val (.int .i64 ((0 : Nat) : Int)), .val (.int .i64 (c : Int))]⟩, ⟨vb, .obj [.ref 3 v0 6 0 0, .val (.int .i64 (c : Int)), .val (.int .i64 (c : Int))]⟩, ⟨v0, .obj [.own 4 v1 1 0 s.l.length, .val (.int .i64 (s.k : Int)), .val (.int .i64 s.ar), .val (.int .i64 s.pt), .val (.bool s.dd), .val (.int .i64 s.wr)]⟩, ⟨v1, .bytes s.l⟩]
   (ak (.al [.val (.slice none 0 0),.val (.int .i64 6)]) [⟨vs,.obj [.ref 3 v0 6 0 0,.ref 1 va 3 0 0,.ref 2 vb 3 0 0]⟩,⟨va,.obj [.ref 3 v0 6 0 0,.val (.int .i64 ((0:Nat):Int)),.val (.int .i64 (c:Int))]⟩,⟨vb,.obj [.ref 3 v0 6 0 0,.val (.int .i64 (c:Int)),.val (.int .i64 (c:Int))]⟩,⟨v0,.obj [.own 4 v1 1 0 s.l.length,.val (.int .i64 (s.k:Int)),.val (.int .i64 s.ar),.val (.int .i64 s.pt),.val (.bool s.dd),.val (.int .i64 s.wr)]⟩,⟨v1,.bytes s.l⟩] []):=by
 refine aq aj Tryz.func72 rfl Tryz.ntmps72 Tryz.results72 ?_
 refine gg (k:= ?_)
 refine ae (mR s c hd vs va vb v0 v1) Tryz.call77 5 [0,1,2,3,4] [0,0,0,0,0] [] ?_
 refine gg (k:= ?_)
 exact⟨_,rfl,rfl,trivial⟩
end Go.Proofs.YtpbpiehcchannaaGreatDoor
