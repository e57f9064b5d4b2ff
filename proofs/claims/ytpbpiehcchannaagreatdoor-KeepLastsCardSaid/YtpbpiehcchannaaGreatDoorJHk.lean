/- Get and Used of a store that is a map. What Keys tells: the sorted keys. Keys of a store that is a map. Delete of a store. Conditions: the premises of each law. -/
import Derived.Test.YtpbpiehcchannaaGreatDoorJNk2
namespace Go.Proofs.YtpbpiehcchannaaGreatDoor
set_option linter.unusedVariables false
set_option linter.unusedSimpArgs false
set_option maxRecDepth 100000
set_option maxHeartbeats 1500000
open Go.RowKit
theorem Pt {W : Int} {n k : Nat} (s : U) (c : Nat) (g : aw W n k s) (pa : aA n k 0 c) (pb : aA n k c c) (hd : s.dd = false) (hi : (s.a8 c).1 = 0) {l : List Rc} {e : Nat} {b : Bool} (hS : s.scan 0 c = (l, e, b)) (vs va vb v0 v1 : Nat) : Spec Tryz.prog 74 [.ref 0 vs 3 0 0] [⟨vs, .obj [.ref 3 v0 6 0 0, .ref 1 va 3 0 0, .ref 2 vb 3 0 0]⟩, ⟨va, .obj [.ref 3 v0 6 0 0, .val (.int .i64 ((0 : Nat) : Int)), .val (.int .i64 (c : Int))]⟩, ⟨vb, .obj [.ref 3 v0 6 0 0, .val (.int .i64 (c : Int)), .val (.int .i64 (c : Int))]⟩, ⟨v0, .obj [.own 4 v1 1 0 s.l.length, .val (.int .i64 (s.k : Int)), .val (.int .i64 s.ar), .val (.int .i64 s.pt), .val (.bool s.dd), .val (.int .i64 s.wr)]⟩, ⟨v1, .bytes s.l⟩]
   (ak (.aD [.val (.int .i64 (aP (b8 (l.map aj)):Int)),.val (.int .i64 0)]) [⟨vs,.obj [.ref 3 v0 6 0 0,.ref 1 va 3 0 0,.ref 2 vb 3 0 0]⟩,⟨va,.obj [.ref 3 v0 6 0 0,.val (.int .i64 ((0:Nat):Int)),.val (.int .i64 (c:Int))]⟩,⟨vb,.obj [.ref 3 v0 6 0 0,.val (.int .i64 (c:Int)),.val (.int .i64 (c:Int))]⟩,⟨v0,.obj [.own 4 v1 1 0 s.l.length,.val (.int .i64 (s.k:Int)),.val (.int .i64 s.ar),.val (.int .i64 s.pt),.val (.bool s.dd),.val (.int .i64 s.wr)]⟩,⟨v1,.bytes s.l⟩] []):=by
 (
 have cG:=fI g pa hS
 have nF:=yt g pa hS
 have k7:=jH g pa hS
 have fR:=nC s c g pa pb hd hi l e b hS vs va vb v0 v1
 refine ax ai Tryz.func74 rfl Tryz.ntmps74 Tryz.results74 ?_
 refine gg ?_
 refine af (fR) Tryz.call77 (he:=⟨fun _=>⟨rfl,rfl,trivial,trivial⟩,trivial,fun _=>⟨rfl,rfl,trivial,trivial⟩,trivial⟩) 5 [0,1,2,3,4,0,0,0,0,0,0,0,0,0,0,0,0,0,0,0,0,0,0,0,0,0,0,0,0,0,10,11,12] [0,0,0,0,0,0,0,0,0,0,0,0,0,0,0,0,0,0,0,0,0,0,0,0,0,0,0,0,0,0,1,1,1] [30,31,32] ?_
 refine gg ?_
 refine af (yv (cJ.kept l) (by omega) (by have:=(iL (l.map aj)).length_le;rw[List.length_map] at this;omega) s 0 c l (e:Int) b (cN l l.length).length 4 4 (l.length+4) va v0 v1 rfl) Tryz.call79 (hrows:=⟨⟨fun _=>⟨(by show 1<6;decide),(by show 1<6;decide),trivial,trivial⟩,rfl⟩,⟨trivial,rfl⟩,⟨fun _=>⟨(by show 1<6;decide),(by show 1<6;decide),trivial,trivial⟩,rfl⟩,⟨⟨(by show 4<6;decide),trivial,trivial,trivial⟩,rfl⟩,⟨⟨(by show 5<6;decide),trivial,trivial,trivial,trivial,trivial,trivial⟩,rfl⟩,⟨trivial,rfl⟩,trivial⟩) (hr2:=⟨fun _=>⟨rfl,rfl,trivial,trivial⟩,trivial,fun _=>⟨rfl,rfl,trivial,trivial⟩,⟨rfl,trivial,trivial,trivial⟩,⟨rfl,trivial,trivial,trivial,trivial,trivial,trivial⟩,trivial,trivial⟩) 6 [12,11,10,1,3,4] [0,0,0,0,0,0] [] ?_
 refine gg ?_
 exact⟨_,rfl,rfl,trivial⟩)
theorem Pu {W : Int} {n k : Nat} (s : U) (c : Nat) (g : aw W n k s) (pa : aA n k 0 c) (pb : aA n k c c) (hd : s.dd = false) (hi : (s.a8 c).1 = 1) {l : List Rc} {e : Nat} {b : Bool} (hS : s.scan c c = (l, e, b)) (vs va vb v0 v1 : Nat) : Spec Tryz.prog 74 [.ref 0 vs 3 0 0] [⟨vs, .obj [.ref 3 v0 6 0 0, .ref 1 va 3 0 0, .ref 2 vb 3 0 0]⟩, ⟨va, .obj [.ref 3 v0 6 0 0, .val (.int .i64 ((0 : Nat) : Int)), .val (.int .i64 (c : Int))]⟩, ⟨vb, .obj [.ref 3 v0 6 0 0, .val (.int .i64 (c : Int)), .val (.int .i64 (c : Int))]⟩, ⟨v0, .obj [.own 4 v1 1 0 s.l.length, .val (.int .i64 (s.k : Int)), .val (.int .i64 s.ar), .val (.int .i64 s.pt), .val (.bool s.dd), .val (.int .i64 s.wr)]⟩, ⟨v1, .bytes s.l⟩]
   (ak (.aD [.val (.int .i64 (aP (b8 (l.map aj)):Int)),.val (.int .i64 0)]) [⟨vs,.obj [.ref 3 v0 6 0 0,.ref 1 va 3 0 0,.ref 2 vb 3 0 0]⟩,⟨va,.obj [.ref 3 v0 6 0 0,.val (.int .i64 ((0:Nat):Int)),.val (.int .i64 (c:Int))]⟩,⟨vb,.obj [.ref 3 v0 6 0 0,.val (.int .i64 (c:Int)),.val (.int .i64 (c:Int))]⟩,⟨v0,.obj [.own 4 v1 1 0 s.l.length,.val (.int .i64 (s.k:Int)),.val (.int .i64 s.ar),.val (.int .i64 s.pt),.val (.bool s.dd),.val (.int .i64 s.wr)]⟩,⟨v1,.bytes s.l⟩] []):=by
 (
 have cG:=fI g pb hS
 have nF:=yt g pb hS
 have k7:=jH g pb hS
 have fR:=nD s c g pa pb hd hi l e b hS vs va vb v0 v1
 refine ax ai Tryz.func74 rfl Tryz.ntmps74 Tryz.results74 ?_
 refine gg ?_
 refine af (fR) Tryz.call77 (he:=⟨fun _=>⟨rfl,rfl,trivial,trivial⟩,trivial,fun _=>⟨rfl,rfl,trivial,trivial⟩,trivial⟩) 5 [0,1,2,3,4,0,0,0,0,0,0,0,0,0,0,0,0,0,0,0,0,0,0,0,0,0,0,0,0,0,10,11,12] [0,0,0,0,0,0,0,0,0,0,0,0,0,0,0,0,0,0,0,0,0,0,0,0,0,0,0,0,0,0,1,1,1] [30,31,32] ?_
 refine gg ?_
 refine af (yv (cJ.kept l) (by omega) (by have:=(iL (l.map aj)).length_le;rw[List.length_map] at this;omega) s c c l (e:Int) b (cN l l.length).length 4 4 (l.length+4) vb v0 v1 rfl) Tryz.call79 (hrows:=⟨⟨fun _=>⟨(by show 1<6;decide),(by show 1<6;decide),trivial,trivial⟩,rfl⟩,⟨trivial,rfl⟩,⟨fun _=>⟨(by show 1<6;decide),(by show 1<6;decide),trivial,trivial⟩,rfl⟩,⟨⟨(by show 4<6;decide),trivial,trivial,trivial⟩,rfl⟩,⟨⟨(by show 5<6;decide),trivial,trivial,trivial,trivial,trivial,trivial⟩,rfl⟩,⟨trivial,rfl⟩,trivial⟩) (hr2:=⟨fun _=>⟨rfl,rfl,trivial,trivial⟩,trivial,fun _=>⟨rfl,rfl,trivial,trivial⟩,⟨rfl,trivial,trivial,trivial⟩,⟨rfl,trivial,trivial,trivial,trivial,trivial,trivial⟩,trivial,trivial⟩) 6 [12,11,10,2,3,4] [0,0,0,0,0,0] [] ?_
 refine gg ?_
 exact⟨_,rfl,rfl,trivial⟩)
theorem Pv {W : Int} {n k : Nat} (s : U) (c : Nat) {M : List RK} (m : LK s c M) (g : aw W n k s) (pa : aA n k 0 c) (pb : aA n k c c) (vs va vb v0 v1 : Nat) : Spec Tryz.prog 74 [.ref 0 vs 3 0 0] [⟨vs, .obj [.ref 3 v0 6 0 0, .ref 1 va 3 0 0, .ref 2 vb 3 0 0]⟩, ⟨va, .obj [.ref 3 v0 6 0 0, .val (.int .i64 ((0 : Nat) : Int)), .val (.int .i64 (c : Int))]⟩, ⟨vb, .obj [.ref 3 v0 6 0 0, .val (.int .i64 (c : Int)), .val (.int .i64 (c : Int))]⟩, ⟨v0, .obj [.own 4 v1 1 0 s.l.length, .val (.int .i64 (s.k : Int)), .val (.int .i64 s.ar), .val (.int .i64 s.pt), .val (.bool s.dd), .val (.int .i64 s.wr)]⟩, ⟨v1, .bytes s.l⟩]
   (ak (.aD [.val (.int .i64 (aP M:Int)),.val (.int .i64 0)]) [⟨vs,.obj [.ref 3 v0 6 0 0,.ref 1 va 3 0 0,.ref 2 vb 3 0 0]⟩,⟨va,.obj [.ref 3 v0 6 0 0,.val (.int .i64 ((0:Nat):Int)),.val (.int .i64 (c:Int))]⟩,⟨vb,.obj [.ref 3 v0 6 0 0,.val (.int .i64 (c:Int)),.val (.int .i64 (c:Int))]⟩,⟨v0,.obj [.own 4 v1 1 0 s.l.length,.val (.int .i64 (s.k:Int)),.val (.int .i64 s.ar),.val (.int .i64 s.pt),.val (.bool s.dd),.val (.int .i64 s.wr)]⟩,⟨v1,.bytes s.l⟩] []):=by
 obtain⟨i,l,e,b,hi,dF,hS,jJ⟩:=m.kept
 rcases hi with rfl | rfl
 ·simp only[Nat.zero_mul] at hS
  have:=Pt s c g pa pb m.live dF hS vs va vb v0 v1
  rw[jJ] at this
  exact this
 ·simp only[Nat.one_mul] at hS
  have:=Pu s c g pa pb m.live dF hS vs va vb v0 v1
  rw[jJ] at this
  exact this
def jK(keys:List (List UInt8)):List (List UInt8):=keys.mergeSort fun x y=> !aS y x
theorem Pw{keys ps:List (List UInt8)}{rs:List (Nat×Nat)}(hlen:keys.length=rs.length)(hk:∀(i:Nat)(x:Nat×Nat)(k:List UInt8),rs[i]? =some x→keys[i]? =some k→ps[x.1]? =some k∧x.2=k.length)(i:Nat)(x:Nat×Nat)(k:List UInt8)(hx:(kf keys rs)[i]? =some x)(hy:(jK keys)[i]? =some k):ps[x.1]? =some k∧x.2=k.length:=by
 have e:jK keys=((List.finRange rs.length).mergeSort fun i j=> !aS (keys.getD j []) (keys.getD i [])).map fun i:Fin rs.length=>keys.getD i.val []:=by
  rw[List.map_mergeSort (s:=fun x y=> !aS y x) (fun a _ b _=>rfl)]
  unfold jK
  congr 1
  apply List.ext_getElem
  ·simp[hlen]
  ·intro j h1 h2
   simp[List.getD_eq_getElem?_getD,h1]
 rw[e] at hy
 unfold kf at hx
 rw[List.getElem?_map] at hx hy
 obtain⟨j,hj,rfl⟩:=Option.map_eq_some_iff.1 hx
 obtain⟨j',ke,rfl⟩:=Option.map_eq_some_iff.1 hy
 rw[hj] at ke
 obtain rfl:=Option.some.inj ke
 refine hk j.val _ _ ?_ ?_
 ·rw[List.getD_eq_getElem?_getD,List.getElem?_eq_getElem j.isLt];rfl
 ·rw[List.getD_eq_getElem?_getD,List.getElem?_eq_getElem (by omega)];rfl
theorem Px(keys:List (List UInt8)):(jK keys).length=keys.length:=List.length_mergeSort ..
theorem Py {W : Int} {n k : Nat} (s : U) (c : Nat) {M : List RK} (m : LK s c M) (g : aw W n k s) (pa : aA n k 0 c) (pb : aA n k c c) (vs va vb v0 v1 : Nat) : ∃ (ps : List (List UInt8)) (rs : List (Nat × Nat)) (L : Nat), L = rs.length ∧ rs.length = (jK (M.map fun r => r.key)).length ∧
   (∀(i:Nat)(x:Nat×Nat)(q:List UInt8),rs[i]? =some x→(jK (M.map fun r=>r.key))[i]? =some q→ps[x.1]? =some q∧x.2=q.length)∧
   Spec Tryz.prog 72 [.ref 0 vs 3 0 0] [⟨vs,.obj [.ref 3 v0 6 0 0,.ref 1 va 3 0 0,.ref 2 vb 3 0 0]⟩,⟨va,.obj [.ref 3 v0 6 0 0,.val (.int .i64 ((0:Nat):Int)),.val (.int .i64 (c:Int))]⟩,⟨vb,.obj [.ref 3 v0 6 0 0,.val (.int .i64 (c:Int)),.val (.int .i64 (c:Int))]⟩,⟨v0,.obj [.own 4 v1 1 0 s.l.length,.val (.int .i64 (s.k:Int)),.val (.int .i64 s.ar),.val (.int .i64 s.pt),.val (.bool s.dd),.val (.int .i64 s.wr)]⟩,⟨v1,.bytes s.l⟩]
   (ak (.aD [.own 33 (L+1) 1 0 L,.val (.int .i64 0)]) [⟨vs,.obj [.ref 3 v0 6 0 0,.ref 1 va 3 0 0,.ref 2 vb 3 0 0]⟩,⟨va,.obj [.ref 3 v0 6 0 0,.val (.int .i64 ((0:Nat):Int)),.val (.int .i64 (c:Int))]⟩,⟨vb,.obj [.ref 3 v0 6 0 0,.val (.int .i64 (c:Int)),.val (.int .i64 (c:Int))]⟩,⟨v0,.obj [.own 4 v1 1 0 s.l.length,.val (.int .i64 (s.k:Int)),.val (.int .i64 s.ar),.val (.int .i64 s.pt),.val (.bool s.dd),.val (.int .i64 s.wr)]⟩,⟨v1,.bytes s.l⟩] [(33,⟨L+1,.row 1 (fT 21 4) (0,0) rs⟩),(21,⟨4,.az ps⟩)]):=by
 obtain⟨i,l,e,b,hi,dF,hS,jJ⟩:=m.kept
 have Ie:lg (l.map aj)=M.map fun r=>r.key:=by unfold lg;rw[jJ]
 refine⟨dI l,kf (lg (l.map aj)) (ct l),(ct l).length,(C3 _ _).symm,?_,?_,?_⟩
 ·rw[C3,Px,←Ie,yC]
 ·intro j x q hx hq
  rw[←Ie] at hq
  exact Pw (yC l) (C4 l) j x q hx hq
 ·rcases hi with rfl | rfl
  ·simp only[Nat.zero_mul] at hS
   exact Pz s c g pa pb m.live dF hS vs va vb v0 v1
  ·simp only[Nat.one_mul] at hS
   exact PA s c g pa pb m.live dF hS vs va vb v0 v1
theorem keys_map {W : Int} {n k : Nat} (s : U) (c : Nat) {M : List RK} (m : LK s c M) (g : aw W n k s) (pa : aA n k 0 c) (pb : aA n k c c) (vs va vb v0 v1 : Nat) : Spec Tryz.prog 72 [.ref 0 vs 3 0 0] [⟨vs, .obj [.ref 3 v0 6 0 0, .ref 1 va 3 0 0, .ref 2 vb 3 0 0]⟩, ⟨va, .obj [.ref 3 v0 6 0 0, .val (.int .i64 ((0 : Nat) : Int)), .val (.int .i64 (c : Int))]⟩, ⟨vb, .obj [.ref 3 v0 6 0 0, .val (.int .i64 (c : Int)), .val (.int .i64 (c : Int))]⟩, ⟨v0, .obj [.own 4 v1 1 0 s.l.length, .val (.int .i64 (s.k : Int)), .val (.int .i64 s.ar), .val (.int .i64 s.pt), .val (.bool s.dd), .val (.int .i64 s.wr)]⟩, ⟨v1, .bytes s.l⟩]
   (ak (.aD [.sl 0 1 (fun k:List UInt8=>[AV.bs 0 k]) [] (jK (M.map fun r=>r.key)),.val (.int .i64 0)]) [⟨vs,.obj [.ref 3 v0 6 0 0,.ref 1 va 3 0 0,.ref 2 vb 3 0 0]⟩,⟨va,.obj [.ref 3 v0 6 0 0,.val (.int .i64 ((0:Nat):Int)),.val (.int .i64 (c:Int))]⟩,⟨vb,.obj [.ref 3 v0 6 0 0,.val (.int .i64 (c:Int)),.val (.int .i64 (c:Int))]⟩,⟨v0,.obj [.own 4 v1 1 0 s.l.length,.val (.int .i64 (s.k:Int)),.val (.int .i64 s.ar),.val (.int .i64 s.pt),.val (.bool s.dd),.val (.int .i64 s.wr)]⟩,⟨v1,.bytes s.l⟩] []):=by
 obtain⟨ps,rs,L,rfl,hl,hk,h⟩:=Py s c m g pa pb vs va vb v0 v1
 refine ix h (by simp[eM]) (AF.aD (aZ.cons (AF.yo rfl rfl hl.symm fun i x y hx hy=> ?_) (aZ.cons AF.same aZ.nil))) ⟨rfl,BF.same,rfl,BF.same,rfl,BF.same,rfl,BF.same,rfl,BF.same,trivial⟩
 obtain⟨h1,h2⟩:=hk i x y hx hy
 exact aZ.cons (AF.pl rfl h1 h2) aZ.nil
theorem PB {W : Int} {n k : Nat} (s : U) (c : Nat) (g : aw W n k s) (hW : W ≤ 1000000000000000) (pa : aA n k 0 c) (pb : aA n k c c) (hd : s.dd = false) (hi : (s.a8 c).1 = 0) {l : List Rc} {e : Nat} {b : Bool} (hS : s.scan 0 c = (l, e, b)) (z : Nat) (key : List UInt8) (vs va vb v0 v1 : Nat) : Spec Tryz.prog 25 [.ref 0 vs 3 0 0, .bs z key] [⟨vs, .obj [.ref 3 v0 6 0 0, .ref 1 va 3 0 0, .ref 2 vb 3 0 0]⟩, ⟨va, .obj [.ref 3 v0 6 0 0, .val (.int .i64 ((0 : Nat) : Int)), .val (.int .i64 (c : Int))]⟩, ⟨vb, .obj [.ref 3 v0 6 0 0, .val (.int .i64 (c : Int)), .val (.int .i64 (c : Int))]⟩, ⟨v0, .obj [.own 4 v1 1 0 s.l.length, .val (.int .i64 (s.k : Int)), .val (.int .i64 s.ar), .val (.int .i64 s.pt), .val (.bool s.dd), .val (.int .i64 s.wr)]⟩, ⟨v1, .bytes s.l⟩]
   (ak (.val (.int .i64 (s.del c key).1)) [⟨vs,.obj [.ref 3 v0 6 0 0,.ref 1 va 3 0 0,.ref 2 vb 3 0 0]⟩,⟨va,.obj [.ref 3 v0 6 0 0,.val (.int .i64 ((0:Nat):Int)),.val (.int .i64 (c:Int))]⟩,⟨vb,.obj [.ref 3 v0 6 0 0,.val (.int .i64 (c:Int)),.val (.int .i64 (c:Int))]⟩,⟨v0,.obj [.own 4 v1 1 0 (s.del c key).2.l.length,.val (.int .i64 ((s.del c key).2.k:Int)),.val (.int .i64 (s.del c key).2.ar),.val (.int .i64 (s.del c key).2.pt),.val (.bool (s.del c key).2.dd),.val (.int .i64 (s.del c key).2.wr)]⟩,⟨v1,.bytes (s.del c key).2.l⟩] []):=by
 (
 have cG:=fI g pa hS
 have k7:=jH g pa hS
 have fR:=nC s c g pa pb hd hi l e b hS vs va vb v0 v1
 have k8:s.bw c=l.map aj:=by unfold U.bw U.fg;rw[hi,show 0*c=0 by omega,hS]
 have qZ:s.del c key=if aT (l.map aj) key<0 then(3,s) else s.kill 0 c (aT (l.map aj) key):=by
  unfold U.del
  rw[hd,if_neg (by simp),k8,hi,show 0*c=0 by omega]
 rw[qZ]
 have ah:=ot (l.map aj) key (l.map aj).length
 have B6:(l.map aj).length=l.length:=List.length_map ..
 refine ax ai Tryz.func25 rfl Tryz.ntmps25 Tryz.results25 ?_
 refine gg ?_
 refine af (fR) Tryz.call77 (he:=⟨fun _=>⟨rfl,rfl,trivial,trivial⟩,trivial,fun _=>⟨rfl,rfl,trivial,trivial⟩,trivial⟩) 5 [0,1,2,3,4,0,0,0,0,0,0,0,0,0,0,0,0,0,0,0,0,0,0,0,0,0,0,0,0,0,20,21,22] [0,0,0,0,0,0,0,0,0,0,0,0,0,0,0,0,0,0,0,0,0,0,0,0,0,0,0,0,0,0,1,1,1] [30,31,32] ?_
 refine gg ?_
 refine af (jI (cJ.of l) cG z key l.length (l.length+4) 4 (di l 0).symm) Tryz.call82 (hrows:=⟨⟨fun _=>⟨Nat.lt_succ_self 1,Nat.lt_succ_self 1,trivial,trivial⟩,rfl⟩,⟨trivial,rfl⟩,trivial⟩) (hr2:=⟨fun _=>⟨rfl,rfl,trivial,trivial⟩,trivial,trivial⟩) 2 [20,21] [0,0] [] ?_
 change -1≤aT (l.map aj) key∧aT (l.map aj) key<_ at ah
 generalize aT (l.map aj) key=L at ah⊢
 by_cases hL:L<0
 ·rw[if_pos hL]
  refine gg ?_
  exact⟨_,rfl,rfl,trivial⟩
 ·rw[if_neg hL]
  refine gg ?_
  refine af (kD s 0 c g (by omega) pa L (by constructor<;>omega) va v0 v1) Tryz.call83 3 [1,3,4] [0,0,0] [] ?_
  refine gg ?_
  exact⟨_,rfl,rfl,trivial⟩)
theorem PC {W : Int} {n k : Nat} (s : U) (c : Nat) (g : aw W n k s) (hW : W ≤ 1000000000000000) (pa : aA n k 0 c) (pb : aA n k c c) (hd : s.dd = false) (hi : (s.a8 c).1 = 1) {l : List Rc} {e : Nat} {b : Bool} (hS : s.scan c c = (l, e, b)) (z : Nat) (key : List UInt8) (vs va vb v0 v1 : Nat) : Spec Tryz.prog 25 [.ref 0 vs 3 0 0, .bs z key] [⟨vs, .obj [.ref 3 v0 6 0 0, .ref 1 va 3 0 0, .ref 2 vb 3 0 0]⟩, ⟨va, .obj [.ref 3 v0 6 0 0, .val (.int .i64 ((0 : Nat) : Int)), .val (.int .i64 (c : Int))]⟩, ⟨vb, .obj [.ref 3 v0 6 0 0, .val (.int .i64 (c : Int)), .val (.int .i64 (c : Int))]⟩, ⟨v0, .obj [.own 4 v1 1 0 s.l.length, .val (.int .i64 (s.k : Int)), .val (.int .i64 s.ar), .val (.int .i64 s.pt), .val (.bool s.dd), .val (.int .i64 s.wr)]⟩, ⟨v1, .bytes s.l⟩]
   (ak (.val (.int .i64 (s.del c key).1)) [⟨vs,.obj [.ref 3 v0 6 0 0,.ref 1 va 3 0 0,.ref 2 vb 3 0 0]⟩,⟨va,.obj [.ref 3 v0 6 0 0,.val (.int .i64 ((0:Nat):Int)),.val (.int .i64 (c:Int))]⟩,⟨vb,.obj [.ref 3 v0 6 0 0,.val (.int .i64 (c:Int)),.val (.int .i64 (c:Int))]⟩,⟨v0,.obj [.own 4 v1 1 0 (s.del c key).2.l.length,.val (.int .i64 ((s.del c key).2.k:Int)),.val (.int .i64 (s.del c key).2.ar),.val (.int .i64 (s.del c key).2.pt),.val (.bool (s.del c key).2.dd),.val (.int .i64 (s.del c key).2.wr)]⟩,⟨v1,.bytes (s.del c key).2.l⟩] []):=by
 (
 have cG:=fI g pb hS
 have k7:=jH g pb hS
 have fR:=nD s c g pa pb hd hi l e b hS vs va vb v0 v1
 have k8:s.bw c=l.map aj:=by unfold U.bw U.fg;rw[hi,show 1*c=c by omega,hS]
 have qZ:s.del c key=if aT (l.map aj) key<0 then(3,s) else s.kill c c (aT (l.map aj) key):=by
  unfold U.del
  rw[hd,if_neg (by simp),k8,hi,show 1*c=c by omega]
 rw[qZ]
 have ah:=ot (l.map aj) key (l.map aj).length
 have B6:(l.map aj).length=l.length:=List.length_map ..
 refine ax ai Tryz.func25 rfl Tryz.ntmps25 Tryz.results25 ?_
 refine gg ?_
 refine af (fR) Tryz.call77 (he:=⟨fun _=>⟨rfl,rfl,trivial,trivial⟩,trivial,fun _=>⟨rfl,rfl,trivial,trivial⟩,trivial⟩) 5 [0,1,2,3,4,0,0,0,0,0,0,0,0,0,0,0,0,0,0,0,0,0,0,0,0,0,0,0,0,0,20,21,22] [0,0,0,0,0,0,0,0,0,0,0,0,0,0,0,0,0,0,0,0,0,0,0,0,0,0,0,0,0,0,1,1,1] [30,31,32] ?_
 refine gg ?_
 refine af (jI (cJ.of l) cG z key l.length (l.length+4) 4 (di l 0).symm) Tryz.call82 (hrows:=⟨⟨fun _=>⟨Nat.lt_succ_self 1,Nat.lt_succ_self 1,trivial,trivial⟩,rfl⟩,⟨trivial,rfl⟩,trivial⟩) (hr2:=⟨fun _=>⟨rfl,rfl,trivial,trivial⟩,trivial,trivial⟩) 2 [20,21] [0,0] [] ?_
 change -1≤aT (l.map aj) key∧aT (l.map aj) key<_ at ah
 generalize aT (l.map aj) key=L at ah⊢
 by_cases hL:L<0
 ·rw[if_pos hL]
  refine gg ?_
  exact⟨_,rfl,rfl,trivial⟩
 ·rw[if_neg hL]
  refine gg ?_
  refine af (kD s c c g (by omega) pb L (by constructor<;>omega) vb v0 v1) Tryz.call83 3 [2,3,4] [0,0,0] [] ?_
  refine gg ?_
  exact⟨_,rfl,rfl,trivial⟩)
theorem PD (s : U) (c : Nat) (hd : s.dd = true) (z : Nat) (key : List UInt8) (vs va vb v0 v1 : Nat) : Spec Tryz.prog 25 [.ref 0 vs 3 0 0, .bs z key] [⟨vs, .obj [.ref 3 v0 6 0 0, .ref 1 va 3 0 0, .ref 2 vb 3 0 0]⟩, ⟨va, .obj [.ref 3 v0 6 0 0, .val (.int .i64 ((0 : Nat) : Int)), .val (.int .i64 (c : Int))]⟩, ⟨vb, .obj [.ref 3 v0 6 0 0, .val (.int .i64 (c : Int)), .val (.int .i64 (c : Int))]⟩, ⟨v0, .obj [.own 4 v1 1 0 s.l.length, .val (.int .i64 (s.k : Int)), .val (.int .i64 s.ar), .val (.int .i64 s.pt), .val (.bool s.dd), .val (.int .i64 s.wr)]⟩, ⟨v1, .bytes s.l⟩]
   (ak (.val (.int .i64 (s.del c key).1)) [⟨vs,.obj [.ref 3 v0 6 0 0,.ref 1 va 3 0 0,.ref 2 vb 3 0 0]⟩,⟨va,.obj [.ref 3 v0 6 0 0,.val (.int .i64 ((0:Nat):Int)),.val (.int .i64 (c:Int))]⟩,⟨vb,.obj [.ref 3 v0 6 0 0,.val (.int .i64 (c:Int)),.val (.int .i64 (c:Int))]⟩,⟨v0,.obj [.own 4 v1 1 0 (s.del c key).2.l.length,.val (.int .i64 ((s.del c key).2.k:Int)),.val (.int .i64 (s.del c key).2.ar),.val (.int .i64 (s.del c key).2.pt),.val (.bool (s.del c key).2.dd),.val (.int .i64 (s.del c key).2.wr)]⟩,⟨v1,.bytes (s.del c key).2.l⟩] []):=by
 rw[show s.del c key=(6,s) by unfold U.del;rw[if_pos hd]]
 refine ax ai Tryz.func25 rfl Tryz.ntmps25 Tryz.results25 ?_
 refine gg ?_
 refine af (vR s c hd vs va vb v0 v1) Tryz.call77 5 [0,1,2,3,4] [0,0,0,0,0] [] ?_
 refine gg ?_
 exact⟨_,rfl,rfl,trivial⟩
theorem PE {W : Int} {n k : Nat} (s : U) (c : Nat) (g : aw W n k s) (hW : W ≤ 1000000000000000) (pa : aA n k 0 c) (pb : aA n k c c) (z : Nat) (key : List UInt8) (vs va vb v0 v1 : Nat) : Spec Tryz.prog 25 [.ref 0 vs 3 0 0, .bs z key] [⟨vs, .obj [.ref 3 v0 6 0 0, .ref 1 va 3 0 0, .ref 2 vb 3 0 0]⟩, ⟨va, .obj [.ref 3 v0 6 0 0, .val (.int .i64 ((0 : Nat) : Int)), .val (.int .i64 (c : Int))]⟩, ⟨vb, .obj [.ref 3 v0 6 0 0, .val (.int .i64 (c : Int)), .val (.int .i64 (c : Int))]⟩, ⟨v0, .obj [.own 4 v1 1 0 s.l.length, .val (.int .i64 (s.k : Int)), .val (.int .i64 s.ar), .val (.int .i64 s.pt), .val (.bool s.dd), .val (.int .i64 s.wr)]⟩, ⟨v1, .bytes s.l⟩]
   (ak (.val (.int .i64 (s.del c key).1)) [⟨vs,.obj [.ref 3 v0 6 0 0,.ref 1 va 3 0 0,.ref 2 vb 3 0 0]⟩,⟨va,.obj [.ref 3 v0 6 0 0,.val (.int .i64 ((0:Nat):Int)),.val (.int .i64 (c:Int))]⟩,⟨vb,.obj [.ref 3 v0 6 0 0,.val (.int .i64 (c:Int)),.val (.int .i64 (c:Int))]⟩,⟨v0,.obj [.own 4 v1 1 0 (s.del c key).2.l.length,.val (.int .i64 ((s.del c key).2.k:Int)),.val (.int .i64 (s.del c key).2.ar),.val (.int .i64 (s.del c key).2.pt),.val (.bool (s.del c key).2.dd),.val (.int .i64 (s.del c key).2.wr)]⟩,⟨v1,.bytes (s.del c key).2.l⟩] []):=by
 rcases Bool.eq_false_or_eq_true s.dd with hd | hd
 ·exact PD s c hd z key vs va vb v0 v1
 ·rcases pG s c with hi | hi
  ·exact PB s c g hW pa pb hd hi rfl z key vs va vb v0 v1
  ·exact PC s c g hW pa pb hd hi rfl z key vs va vb v0 v1
end Go.Proofs.YtpbpiehcchannaaGreatDoor
