/- What Keys tells: the sorted keys. Keys of a store that is a map. Get and Used of a store that is a map. Delete of a store. Conditions: the premises of each law. -/
import Derived.Test.YtpbpiehcchannaaGreatDoorJHs
import Derived.Test.YtpbpiehcchannaaGreatDoorJNk2
import Derived.Test.YtpbpiehcchannaaGreatDoorJHp
namespace Go.Proofs.YtpbpiehcchannaaGreatDoor
open Go.RowKit
set_option linter.unusedVariables false
set_option linter.unusedSimpArgs false
set_option maxRecDepth 100000
set_option maxHeartbeats 1500000
def jk(keys:List (List UInt8)):List (List UInt8):=keys.mergeSort fun x y=> !bQ y x
theorem Ll{keys ps:List (List UInt8)}{rs:List (Nat×Nat)}(hlen:keys.length=rs.length)(hk:∀(i:Nat)(x:Nat×Nat)(k:List UInt8),rs[i]? =some x→keys[i]? =some k→ps[x.1]? =some k∧x.2=k.length)(i:Nat)(x:Nat×Nat)(k:List UInt8)(hx:(jl keys rs)[i]? =some x)(hy:(jk keys)[i]? =some k):ps[x.1]? =some k∧x.2=k.length:=by
 have e:jk keys=((List.finRange rs.length).mergeSort fun i j=> !bQ (keys.getD j []) (keys.getD i [])).map fun i:Fin rs.length=>keys.getD i.val []:=by
  rw[List.map_mergeSort (s:=fun x y=> !bQ y x) (fun a _ b _=>rfl)]
  unfold jk
  congr 1
  apply List.ext_getElem
  ·simp[hlen]
  ·intro j h1 h2
   simp[List.getD_eq_getElem?_getD,h1]
 rw[e] at hy
 unfold jl at hx
 rw[List.getElem?_map] at hx hy
 obtain⟨j,hj,rfl⟩:=Option.map_eq_some_iff.1 hx
 obtain⟨j',pF,rfl⟩:=Option.map_eq_some_iff.1 hy
 rw[hj] at pF
 obtain rfl:=Option.some.inj pF
 refine hk j.val _ _ ?_ ?_
 ·rw[List.getD_eq_getElem?_getD,List.getElem?_eq_getElem j.isLt];rfl
 ·rw[List.getD_eq_getElem?_getD,List.getElem?_eq_getElem (by omega)];rfl
theorem tc(keys:List (List UInt8)):(jk keys).length=keys.length:=List.length_mergeSort ..
end Go.Proofs.YtpbpiehcchannaaGreatDoor
namespace Go.Proofs.YtpbpiehcchannaaGreatDoor
open Go.RowKit
set_option linter.unusedVariables false
set_option linter.unusedSimpArgs false
set_option maxRecDepth 100000
set_option maxHeartbeats 1500000
theorem Lm {W : Int} {n k : Nat} (s : J) (c : Nat) {M : List RK} (m : LK s c M) (g : av W n k s) (pa : aC n k 0 c) (pb : aC n k c c) (vs va vb v0 v1 : Nat) : ∃ (ps : List (List UInt8)) (rs : List (Nat × Nat)) (L : Nat), L = rs.length ∧ rs.length = (jk (M.map fun r => r.key)).length ∧
   (∀(i:Nat)(x:Nat×Nat)(q:List UInt8),rs[i]? =some x→(jk (M.map fun r=>r.key))[i]? =some q→ps[x.1]? =some q∧x.2=q.length)∧
   Spec Tryz.prog 72 [.ref 0 vs 3 0 0] [⟨vs,.obj [.ref 3 v0 6 0 0,.ref 1 va 3 0 0,.ref 2 vb 3 0 0]⟩,⟨va,.obj [.ref 3 v0 6 0 0,.val (.int .i64 ((0:Nat):Int)),.val (.int .i64 (c:Int))]⟩,⟨vb,.obj [.ref 3 v0 6 0 0,.val (.int .i64 (c:Int)),.val (.int .i64 (c:Int))]⟩,⟨v0,.obj [.own 4 v1 1 0 s.l.length,.val (.int .i64 (s.k:Int)),.val (.int .i64 s.ar),.val (.int .i64 s.pt),.val (.bool s.dd),.val (.int .i64 s.wr)]⟩,⟨v1,.bytes s.l⟩]
   (ak (.al [.own 33 (L+1) 1 0 L,.val (.int .i64 0)]) [⟨vs,.obj [.ref 3 v0 6 0 0,.ref 1 va 3 0 0,.ref 2 vb 3 0 0]⟩,⟨va,.obj [.ref 3 v0 6 0 0,.val (.int .i64 ((0:Nat):Int)),.val (.int .i64 (c:Int))]⟩,⟨vb,.obj [.ref 3 v0 6 0 0,.val (.int .i64 (c:Int)),.val (.int .i64 (c:Int))]⟩,⟨v0,.obj [.own 4 v1 1 0 s.l.length,.val (.int .i64 (s.k:Int)),.val (.int .i64 s.ar),.val (.int .i64 s.pt),.val (.bool s.dd),.val (.int .i64 s.wr)]⟩,⟨v1,.bytes s.l⟩] [(33,⟨L+1,.row 1 (fe 21 4) (0,0) rs⟩),(21,⟨4,.aB ps⟩)]):=by
 obtain⟨i,l,e,b,hi,aS,hS,l7⟩:=m.kept
 have EF:gQ (l.map an)=M.map fun r=>r.key:=by unfold gQ;rw[l7]
 refine⟨cV l,jl (gQ (l.map an)) (bZ l),(bZ l).length,(zN _ _).symm,?_,?_,?_⟩
 ·rw[zN,tc,←EF,vJ]
 ·intro j x q hx hq
  rw[←EF] at hq
  exact Ll (vJ l) (zO l) j x q hx hq
 ·rcases hi with rfl | rfl
  ·simp only[Nat.zero_mul] at hS
   exact Ln s c g pa pb m.live aS hS vs va vb v0 v1
  ·simp only[Nat.one_mul] at hS
   exact Lo s c g pa pb m.live aS hS vs va vb v0 v1
end Go.Proofs.YtpbpiehcchannaaGreatDoor
namespace Go.Proofs.YtpbpiehcchannaaGreatDoor
open Go.RowKit
set_option linter.unusedVariables false
set_option linter.unusedSimpArgs false
set_option maxRecDepth 100000
set_option maxHeartbeats 1500000
theorem Lp {W : Int} {n k : Nat} (s : J) (c : Nat) (g : av W n k s) (pa : aC n k 0 c) (pb : aC n k c c) (hd : s.dd = false) (hi : (s.aI c).1 = 0) {l : List Rc} {e : Nat} {b : Bool} (hS : s.scan 0 c = (l, e, b)) (vs va vb v0 v1 : Nat) : Spec Tryz.prog 74 [.ref 0 vs 3 0 0] [⟨vs, .obj [.ref 3 v0 6 0 0, .ref 1 va 3 0 0, .ref 2 vb 3 0 0]⟩, ⟨va, .obj [.ref 3 v0 6 0 0, .val (.int .i64 ((0 : Nat) : Int)), .val (.int .i64 (c : Int))]⟩, ⟨vb, .obj [.ref 3 v0 6 0 0, .val (.int .i64 (c : Int)), .val (.int .i64 (c : Int))]⟩, ⟨v0, .obj [.own 4 v1 1 0 s.l.length, .val (.int .i64 (s.k : Int)), .val (.int .i64 s.ar), .val (.int .i64 s.pt), .val (.bool s.dd), .val (.int .i64 s.wr)]⟩, ⟨v1, .bytes s.l⟩]
   (ak (.al [.val (.int .i64 (bw (bm (l.map an)):Int)),.val (.int .i64 0)]) [⟨vs,.obj [.ref 3 v0 6 0 0,.ref 1 va 3 0 0,.ref 2 vb 3 0 0]⟩,⟨va,.obj [.ref 3 v0 6 0 0,.val (.int .i64 ((0:Nat):Int)),.val (.int .i64 (c:Int))]⟩,⟨vb,.obj [.ref 3 v0 6 0 0,.val (.int .i64 (c:Int)),.val (.int .i64 (c:Int))]⟩,⟨v0,.obj [.own 4 v1 1 0 s.l.length,.val (.int .i64 (s.k:Int)),.val (.int .i64 s.ar),.val (.int .i64 s.pt),.val (.bool s.dd),.val (.int .i64 s.wr)]⟩,⟨v1,.bytes s.l⟩] []):=by
 (
 have b9:=eB g pa hS
 have pG:=td g pa hS
 have jm:=ja g pa hS
 have ff:=l8 s c g pa pb hd hi l e b hS vs va vb v0 v1
 refine aq aj Tryz.func74 rfl Tryz.ntmps74 Tryz.results74 ?_
 refine gg (k:= ?_)
 refine ae (ff) Tryz.call77 (he:=⟨fun _=>⟨rfl,rfl,trivial,trivial⟩,trivial,fun _=>⟨rfl,rfl,trivial,trivial⟩,trivial⟩) 5 [0,1,2,3,4,0,0,0,0,0,0,0,0,0,0,0,0,0,0,0,0,0,0,0,0,0,0,0,0,0,10,11,12] [0,0,0,0,0,0,0,0,0,0,0,0,0,0,0,0,0,0,0,0,0,0,0,0,0,0,0,0,0,0,1,1,1] [30,31,32] ?_
 refine gg (k:= ?_)
 refine ae (vK (ct.kept l) (by omega) (by have:=(dR (l.map an)).length_le;rw[List.length_map] at this;omega) s 0 c l (e:Int) b (cB l l.length).length 4 4 (l.length+4) va v0 v1 rfl) Tryz.call79 (hrows:=⟨⟨fun _=>⟨(by show 1<6;decide),(by show 1<6;decide),trivial,trivial⟩,rfl⟩,⟨trivial,rfl⟩,⟨fun _=>⟨(by show 1<6;decide),(by show 1<6;decide),trivial,trivial⟩,rfl⟩,⟨⟨(by show 4<6;decide),trivial,trivial,trivial⟩,rfl⟩,⟨⟨(by show 5<6;decide),trivial,trivial,trivial,trivial,trivial,trivial⟩,rfl⟩,⟨trivial,rfl⟩,trivial⟩) (hr2:=⟨fun _=>⟨rfl,rfl,trivial,trivial⟩,trivial,fun _=>⟨rfl,rfl,trivial,trivial⟩,⟨rfl,trivial,trivial,trivial⟩,⟨rfl,trivial,trivial,trivial,trivial,trivial,trivial⟩,trivial,trivial⟩) 6 [12,11,10,1,3,4] [0,0,0,0,0,0] [] ?_
 refine gg (k:= ?_)
 exact⟨_,rfl,rfl,trivial⟩)
theorem Lq {W : Int} {n k : Nat} (s : J) (c : Nat) (g : av W n k s) (pa : aC n k 0 c) (pb : aC n k c c) (hd : s.dd = false) (hi : (s.aI c).1 = 1) {l : List Rc} {e : Nat} {b : Bool} (hS : s.scan c c = (l, e, b)) (vs va vb v0 v1 : Nat) : Spec Tryz.prog 74 [.ref 0 vs 3 0 0] [⟨vs, .obj [.ref 3 v0 6 0 0, .ref 1 va 3 0 0, .ref 2 vb 3 0 0]⟩, ⟨va, .obj [.ref 3 v0 6 0 0, .val (.int .i64 ((0 : Nat) : Int)), .val (.int .i64 (c : Int))]⟩, ⟨vb, .obj [.ref 3 v0 6 0 0, .val (.int .i64 (c : Int)), .val (.int .i64 (c : Int))]⟩, ⟨v0, .obj [.own 4 v1 1 0 s.l.length, .val (.int .i64 (s.k : Int)), .val (.int .i64 s.ar), .val (.int .i64 s.pt), .val (.bool s.dd), .val (.int .i64 s.wr)]⟩, ⟨v1, .bytes s.l⟩]
   (ak (.al [.val (.int .i64 (bw (bm (l.map an)):Int)),.val (.int .i64 0)]) [⟨vs,.obj [.ref 3 v0 6 0 0,.ref 1 va 3 0 0,.ref 2 vb 3 0 0]⟩,⟨va,.obj [.ref 3 v0 6 0 0,.val (.int .i64 ((0:Nat):Int)),.val (.int .i64 (c:Int))]⟩,⟨vb,.obj [.ref 3 v0 6 0 0,.val (.int .i64 (c:Int)),.val (.int .i64 (c:Int))]⟩,⟨v0,.obj [.own 4 v1 1 0 s.l.length,.val (.int .i64 (s.k:Int)),.val (.int .i64 s.ar),.val (.int .i64 s.pt),.val (.bool s.dd),.val (.int .i64 s.wr)]⟩,⟨v1,.bytes s.l⟩] []):=by
 (
 have b9:=eB g pb hS
 have pG:=td g pb hS
 have jm:=ja g pb hS
 have ff:=l9 s c g pa pb hd hi l e b hS vs va vb v0 v1
 refine aq aj Tryz.func74 rfl Tryz.ntmps74 Tryz.results74 ?_
 refine gg (k:= ?_)
 refine ae (ff) Tryz.call77 (he:=⟨fun _=>⟨rfl,rfl,trivial,trivial⟩,trivial,fun _=>⟨rfl,rfl,trivial,trivial⟩,trivial⟩) 5 [0,1,2,3,4,0,0,0,0,0,0,0,0,0,0,0,0,0,0,0,0,0,0,0,0,0,0,0,0,0,10,11,12] [0,0,0,0,0,0,0,0,0,0,0,0,0,0,0,0,0,0,0,0,0,0,0,0,0,0,0,0,0,0,1,1,1] [30,31,32] ?_
 refine gg (k:= ?_)
 refine ae (vK (ct.kept l) (by omega) (by have:=(dR (l.map an)).length_le;rw[List.length_map] at this;omega) s c c l (e:Int) b (cB l l.length).length 4 4 (l.length+4) vb v0 v1 rfl) Tryz.call79 (hrows:=⟨⟨fun _=>⟨(by show 1<6;decide),(by show 1<6;decide),trivial,trivial⟩,rfl⟩,⟨trivial,rfl⟩,⟨fun _=>⟨(by show 1<6;decide),(by show 1<6;decide),trivial,trivial⟩,rfl⟩,⟨⟨(by show 4<6;decide),trivial,trivial,trivial⟩,rfl⟩,⟨⟨(by show 5<6;decide),trivial,trivial,trivial,trivial,trivial,trivial⟩,rfl⟩,⟨trivial,rfl⟩,trivial⟩) (hr2:=⟨fun _=>⟨rfl,rfl,trivial,trivial⟩,trivial,fun _=>⟨rfl,rfl,trivial,trivial⟩,⟨rfl,trivial,trivial,trivial⟩,⟨rfl,trivial,trivial,trivial,trivial,trivial,trivial⟩,trivial,trivial⟩) 6 [12,11,10,2,3,4] [0,0,0,0,0,0] [] ?_
 refine gg (k:= ?_)
 exact⟨_,rfl,rfl,trivial⟩)
theorem Lr {W : Int} {n k : Nat} (s : J) (c : Nat) {M : List RK} (m : LK s c M) (g : av W n k s) (pa : aC n k 0 c) (pb : aC n k c c) (vs va vb v0 v1 : Nat) : Spec Tryz.prog 74 [.ref 0 vs 3 0 0] [⟨vs, .obj [.ref 3 v0 6 0 0, .ref 1 va 3 0 0, .ref 2 vb 3 0 0]⟩, ⟨va, .obj [.ref 3 v0 6 0 0, .val (.int .i64 ((0 : Nat) : Int)), .val (.int .i64 (c : Int))]⟩, ⟨vb, .obj [.ref 3 v0 6 0 0, .val (.int .i64 (c : Int)), .val (.int .i64 (c : Int))]⟩, ⟨v0, .obj [.own 4 v1 1 0 s.l.length, .val (.int .i64 (s.k : Int)), .val (.int .i64 s.ar), .val (.int .i64 s.pt), .val (.bool s.dd), .val (.int .i64 s.wr)]⟩, ⟨v1, .bytes s.l⟩]
   (ak (.al [.val (.int .i64 (bw M:Int)),.val (.int .i64 0)]) [⟨vs,.obj [.ref 3 v0 6 0 0,.ref 1 va 3 0 0,.ref 2 vb 3 0 0]⟩,⟨va,.obj [.ref 3 v0 6 0 0,.val (.int .i64 ((0:Nat):Int)),.val (.int .i64 (c:Int))]⟩,⟨vb,.obj [.ref 3 v0 6 0 0,.val (.int .i64 (c:Int)),.val (.int .i64 (c:Int))]⟩,⟨v0,.obj [.own 4 v1 1 0 s.l.length,.val (.int .i64 (s.k:Int)),.val (.int .i64 s.ar),.val (.int .i64 s.pt),.val (.bool s.dd),.val (.int .i64 s.wr)]⟩,⟨v1,.bytes s.l⟩] []):=by
 obtain⟨i,l,e,b,hi,aS,hS,l7⟩:=m.kept
 rcases hi with rfl | rfl
 ·simp only[Nat.zero_mul] at hS
  have:=Lp s c g pa pb m.live aS hS vs va vb v0 v1
  rw[l7] at this
  exact this
 ·simp only[Nat.one_mul] at hS
  have:=Lq s c g pa pb m.live aS hS vs va vb v0 v1
  rw[l7] at this
  exact this
end Go.Proofs.YtpbpiehcchannaaGreatDoor
namespace Go.Proofs.YtpbpiehcchannaaGreatDoor
open Go.RowKit
set_option linter.unusedVariables false
set_option linter.unusedSimpArgs false
set_option maxRecDepth 100000
set_option maxHeartbeats 1500000
theorem Ls {W : Int} {n k : Nat} (s : J) (c : Nat) (g : av W n k s) (hW : W ≤ 1000000000000000) (pa : aC n k 0 c) (pb : aC n k c c) (hd : s.dd = false) (hi : (s.aI c).1 = 0) {l : List Rc} {e : Nat} {b : Bool} (hS : s.scan 0 c = (l, e, b)) (z : Nat) (key : List UInt8) (vs va vb v0 v1 : Nat) : Spec Tryz.prog 25 [.ref 0 vs 3 0 0, .bs z key] [⟨vs, .obj [.ref 3 v0 6 0 0, .ref 1 va 3 0 0, .ref 2 vb 3 0 0]⟩, ⟨va, .obj [.ref 3 v0 6 0 0, .val (.int .i64 ((0 : Nat) : Int)), .val (.int .i64 (c : Int))]⟩, ⟨vb, .obj [.ref 3 v0 6 0 0, .val (.int .i64 (c : Int)), .val (.int .i64 (c : Int))]⟩, ⟨v0, .obj [.own 4 v1 1 0 s.l.length, .val (.int .i64 (s.k : Int)), .val (.int .i64 s.ar), .val (.int .i64 s.pt), .val (.bool s.dd), .val (.int .i64 s.wr)]⟩, ⟨v1, .bytes s.l⟩]
   (ak (.val (.int .i64 (s.del c key).1)) [⟨vs,.obj [.ref 3 v0 6 0 0,.ref 1 va 3 0 0,.ref 2 vb 3 0 0]⟩,⟨va,.obj [.ref 3 v0 6 0 0,.val (.int .i64 ((0:Nat):Int)),.val (.int .i64 (c:Int))]⟩,⟨vb,.obj [.ref 3 v0 6 0 0,.val (.int .i64 (c:Int)),.val (.int .i64 (c:Int))]⟩,⟨v0,.obj [.own 4 v1 1 0 (s.del c key).2.l.length,.val (.int .i64 ((s.del c key).2.k:Int)),.val (.int .i64 (s.del c key).2.ar),.val (.int .i64 (s.del c key).2.pt),.val (.bool (s.del c key).2.dd),.val (.int .i64 (s.del c key).2.wr)]⟩,⟨v1,.bytes (s.del c key).2.l⟩] []):=by
 (
 have b9:=eB g pa hS
 have jm:=ja g pa hS
 have ff:=l8 s c g pa pb hd hi l e b hS vs va vb v0 v1
 have eP:s.au c=l.map an:=by unfold J.au J.be;rw[hi,show 0*c=0 by omega,hS]
 have te:s.del c key=if aJ (l.map an) key<0 then(3,s) else s.kill 0 c (aJ (l.map an) key):=by
  unfold J.del
  rw[hd,if_neg (by simp),eP,hi,show 0*c=0 by omega]
 rw[te]
 have ai:=n4 (l.map an) key (l.map an).length
 have zd:(l.map an).length=l.length:=List.length_map ..
 refine aq aj Tryz.func25 rfl Tryz.ntmps25 Tryz.results25 ?_
 refine gg (k:= ?_)
 refine ae (ff) Tryz.call77 (he:=⟨fun _=>⟨rfl,rfl,trivial,trivial⟩,trivial,fun _=>⟨rfl,rfl,trivial,trivial⟩,trivial⟩) 5 [0,1,2,3,4,0,0,0,0,0,0,0,0,0,0,0,0,0,0,0,0,0,0,0,0,0,0,0,0,0,20,21,22] [0,0,0,0,0,0,0,0,0,0,0,0,0,0,0,0,0,0,0,0,0,0,0,0,0,0,0,0,0,0,1,1,1] [30,31,32] ?_
 refine gg (k:= ?_)
 refine ae (iF (ct.of l) b9 z key l.length (l.length+4) 4 (cP l 0).symm) Tryz.call82 (hrows:=⟨⟨fun _=>⟨Nat.lt_succ_self 1,Nat.lt_succ_self 1,trivial,trivial⟩,rfl⟩,⟨trivial,rfl⟩,trivial⟩) (hr2:=⟨fun _=>⟨rfl,rfl,trivial,trivial⟩,trivial,trivial⟩) 2 [20,21] [0,0] [] ?_
 change -1≤aJ (l.map an) key∧aJ (l.map an) key<_ at ai
 generalize aJ (l.map an) key=L at ai⊢
 by_cases hL:L<0
 ·rw[if_pos hL]
  refine gg (k:= ?_)
  exact⟨_,rfl,rfl,trivial⟩
 ·rw[if_neg hL]
  refine gg (k:= ?_)
  refine ae (jC s 0 c g (by omega) pa L (by constructor<;>omega) va v0 v1) Tryz.call83 3 [1,3,4] [0,0,0] [] ?_
  refine gg (k:= ?_)
  exact⟨_,rfl,rfl,trivial⟩)
theorem Lt {W : Int} {n k : Nat} (s : J) (c : Nat) (g : av W n k s) (hW : W ≤ 1000000000000000) (pa : aC n k 0 c) (pb : aC n k c c) (hd : s.dd = false) (hi : (s.aI c).1 = 1) {l : List Rc} {e : Nat} {b : Bool} (hS : s.scan c c = (l, e, b)) (z : Nat) (key : List UInt8) (vs va vb v0 v1 : Nat) : Spec Tryz.prog 25 [.ref 0 vs 3 0 0, .bs z key] [⟨vs, .obj [.ref 3 v0 6 0 0, .ref 1 va 3 0 0, .ref 2 vb 3 0 0]⟩, ⟨va, .obj [.ref 3 v0 6 0 0, .val (.int .i64 ((0 : Nat) : Int)), .val (.int .i64 (c : Int))]⟩, ⟨vb, .obj [.ref 3 v0 6 0 0, .val (.int .i64 (c : Int)), .val (.int .i64 (c : Int))]⟩, ⟨v0, .obj [.own 4 v1 1 0 s.l.length, .val (.int .i64 (s.k : Int)), .val (.int .i64 s.ar), .val (.int .i64 s.pt), .val (.bool s.dd), .val (.int .i64 s.wr)]⟩, ⟨v1, .bytes s.l⟩]
   (ak (.val (.int .i64 (s.del c key).1)) [⟨vs,.obj [.ref 3 v0 6 0 0,.ref 1 va 3 0 0,.ref 2 vb 3 0 0]⟩,⟨va,.obj [.ref 3 v0 6 0 0,.val (.int .i64 ((0:Nat):Int)),.val (.int .i64 (c:Int))]⟩,⟨vb,.obj [.ref 3 v0 6 0 0,.val (.int .i64 (c:Int)),.val (.int .i64 (c:Int))]⟩,⟨v0,.obj [.own 4 v1 1 0 (s.del c key).2.l.length,.val (.int .i64 ((s.del c key).2.k:Int)),.val (.int .i64 (s.del c key).2.ar),.val (.int .i64 (s.del c key).2.pt),.val (.bool (s.del c key).2.dd),.val (.int .i64 (s.del c key).2.wr)]⟩,⟨v1,.bytes (s.del c key).2.l⟩] []):=by
 (
 have b9:=eB g pb hS
 have jm:=ja g pb hS
 have ff:=l9 s c g pa pb hd hi l e b hS vs va vb v0 v1
 have eP:s.au c=l.map an:=by unfold J.au J.be;rw[hi,show 1*c=c by omega,hS]
 have te:s.del c key=if aJ (l.map an) key<0 then(3,s) else s.kill c c (aJ (l.map an) key):=by
  unfold J.del
  rw[hd,if_neg (by simp),eP,hi,show 1*c=c by omega]
 rw[te]
 have ai:=n4 (l.map an) key (l.map an).length
 have zd:(l.map an).length=l.length:=List.length_map ..
 refine aq aj Tryz.func25 rfl Tryz.ntmps25 Tryz.results25 ?_
 refine gg (k:= ?_)
 refine ae (ff) Tryz.call77 (he:=⟨fun _=>⟨rfl,rfl,trivial,trivial⟩,trivial,fun _=>⟨rfl,rfl,trivial,trivial⟩,trivial⟩) 5 [0,1,2,3,4,0,0,0,0,0,0,0,0,0,0,0,0,0,0,0,0,0,0,0,0,0,0,0,0,0,20,21,22] [0,0,0,0,0,0,0,0,0,0,0,0,0,0,0,0,0,0,0,0,0,0,0,0,0,0,0,0,0,0,1,1,1] [30,31,32] ?_
 refine gg (k:= ?_)
 refine ae (iF (ct.of l) b9 z key l.length (l.length+4) 4 (cP l 0).symm) Tryz.call82 (hrows:=⟨⟨fun _=>⟨Nat.lt_succ_self 1,Nat.lt_succ_self 1,trivial,trivial⟩,rfl⟩,⟨trivial,rfl⟩,trivial⟩) (hr2:=⟨fun _=>⟨rfl,rfl,trivial,trivial⟩,trivial,trivial⟩) 2 [20,21] [0,0] [] ?_
 change -1≤aJ (l.map an) key∧aJ (l.map an) key<_ at ai
 generalize aJ (l.map an) key=L at ai⊢
 by_cases hL:L<0
 ·rw[if_pos hL]
  refine gg (k:= ?_)
  exact⟨_,rfl,rfl,trivial⟩
 ·rw[if_neg hL]
  refine gg (k:= ?_)
  refine ae (jC s c c g (by omega) pb L (by constructor<;>omega) vb v0 v1) Tryz.call83 3 [2,3,4] [0,0,0] [] ?_
  refine gg (k:= ?_)
  exact⟨_,rfl,rfl,trivial⟩)
theorem Lu (s : J) (c : Nat) (hd : s.dd = true) (z : Nat) (key : List UInt8) (vs va vb v0 v1 : Nat) : Spec Tryz.prog 25 [.ref 0 vs 3 0 0, .bs z key] [⟨vs, .obj [.ref 3 v0 6 0 0, .ref 1 va 3 0 0, .ref 2 vb 3 0 0]⟩, ⟨va, .obj [.ref 3 v0 6 0 0, .val (.int .i64 ((0 : Nat) : Int)), .val (.int .i64 (c : Int))]⟩, ⟨vb, .obj [.ref 3 v0 6 0 0, .val (.int .i64 (c : Int)), .val (.int .i64 (c : Int))]⟩, ⟨v0, .obj [.own 4 v1 1 0 s.l.length, .val (.int .i64 (s.k : Int)), .val (.int .i64 s.ar), .val (.int .i64 s.pt), .val (.bool s.dd), .val (.int .i64 s.wr)]⟩, ⟨v1, .bytes s.l⟩]
   (ak (.val (.int .i64 (s.del c key).1)) [⟨vs,.obj [.ref 3 v0 6 0 0,.ref 1 va 3 0 0,.ref 2 vb 3 0 0]⟩,⟨va,.obj [.ref 3 v0 6 0 0,.val (.int .i64 ((0:Nat):Int)),.val (.int .i64 (c:Int))]⟩,⟨vb,.obj [.ref 3 v0 6 0 0,.val (.int .i64 (c:Int)),.val (.int .i64 (c:Int))]⟩,⟨v0,.obj [.own 4 v1 1 0 (s.del c key).2.l.length,.val (.int .i64 ((s.del c key).2.k:Int)),.val (.int .i64 (s.del c key).2.ar),.val (.int .i64 (s.del c key).2.pt),.val (.bool (s.del c key).2.dd),.val (.int .i64 (s.del c key).2.wr)]⟩,⟨v1,.bytes (s.del c key).2.l⟩] []):=by
 rw[show s.del c key=(6,s) by unfold J.del;rw[if_pos hd]]
 refine aq aj Tryz.func25 rfl Tryz.ntmps25 Tryz.results25 ?_
 refine gg (k:= ?_)
 refine ae (mR s c hd vs va vb v0 v1) Tryz.call77 5 [0,1,2,3,4] [0,0,0,0,0] [] ?_
 refine gg (k:= ?_)
 exact⟨_,rfl,rfl,trivial⟩
theorem Lv {W : Int} {n k : Nat} (s : J) (c : Nat) (g : av W n k s) (hW : W ≤ 1000000000000000) (pa : aC n k 0 c) (pb : aC n k c c) (z : Nat) (key : List UInt8) (vs va vb v0 v1 : Nat) : Spec Tryz.prog 25 [.ref 0 vs 3 0 0, .bs z key] [⟨vs, .obj [.ref 3 v0 6 0 0, .ref 1 va 3 0 0, .ref 2 vb 3 0 0]⟩, ⟨va, .obj [.ref 3 v0 6 0 0, .val (.int .i64 ((0 : Nat) : Int)), .val (.int .i64 (c : Int))]⟩, ⟨vb, .obj [.ref 3 v0 6 0 0, .val (.int .i64 (c : Int)), .val (.int .i64 (c : Int))]⟩, ⟨v0, .obj [.own 4 v1 1 0 s.l.length, .val (.int .i64 (s.k : Int)), .val (.int .i64 s.ar), .val (.int .i64 s.pt), .val (.bool s.dd), .val (.int .i64 s.wr)]⟩, ⟨v1, .bytes s.l⟩]
   (ak (.val (.int .i64 (s.del c key).1)) [⟨vs,.obj [.ref 3 v0 6 0 0,.ref 1 va 3 0 0,.ref 2 vb 3 0 0]⟩,⟨va,.obj [.ref 3 v0 6 0 0,.val (.int .i64 ((0:Nat):Int)),.val (.int .i64 (c:Int))]⟩,⟨vb,.obj [.ref 3 v0 6 0 0,.val (.int .i64 (c:Int)),.val (.int .i64 (c:Int))]⟩,⟨v0,.obj [.own 4 v1 1 0 (s.del c key).2.l.length,.val (.int .i64 ((s.del c key).2.k:Int)),.val (.int .i64 (s.del c key).2.ar),.val (.int .i64 (s.del c key).2.pt),.val (.bool (s.del c key).2.dd),.val (.int .i64 (s.del c key).2.wr)]⟩,⟨v1,.bytes (s.del c key).2.l⟩] []):=by
 rcases Bool.eq_false_or_eq_true s.dd with hd | hd
 ·exact Lu s c hd z key vs va vb v0 v1
 ·rcases gC s c with hi | hi
  ·exact Ls s c g hW pa pb hd hi rfl z key vs va vb v0 v1
  ·exact Lt s c g hW pa pb hd hi rfl z key vs va vb v0 v1
end Go.Proofs.YtpbpiehcchannaaGreatDoor
