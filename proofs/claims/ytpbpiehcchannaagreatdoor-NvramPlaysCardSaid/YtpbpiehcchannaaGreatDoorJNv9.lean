/- Walks of nvram: Get. Conditions: none. -/
import Derived.Test.YtpbpiehcchannaaGreatDoorJNv8
namespace Go.Proofs.YtpbpiehcchannaaGreatDoor
open Go.RowKit
set_option linter.unusedVariables false
set_option linter.unusedSimpArgs false
set_option maxRecDepth 100000
set_option maxHeartbeats 1500000
theorem iF {rs : List Rr} {ps : List (List UInt8)} {la : List RK} (h : ct rs ps la) (hb : (∀ r ∈ la, r.key.length ≤ 140737488355328 ∧ r.val.length ≤ 140737488355328) ∧ la.length ≤ 140737488355328) (z : Nat) (key : List UInt8) (na va wa : Nat) (bo : na = rs.length) :
    Spec Tryz.prog 82 [.own 0 va 3 0 na,.bs z key] [⟨va,.row 3 (bO 1 wa) ⟨0,0,0,false⟩ rs⟩,⟨wa,.aB ps⟩]
     (ak (.val (.int .i64 (aJ la key))) [⟨va,.row 3 (bO 1 wa) ⟨0,0,0,false⟩ rs⟩,⟨wa,.aB ps⟩] []):=
 jY (ER 0 0 la key (fun r hr=>(hb.1 r hr).1) hb.2) trivial trivial (rows:=[⟨va,.row 3 (bO 1 wa) ⟨0,0,0,false⟩ rs⟩,⟨wa,.aB ps⟩]) (args:=[.own 0 va 3 0 na,.bs z key])
  (du (DH h rfl rfl bo) (du qE fT))
theorem LL {W : Int} {n k : Nat} (s : J) (c : Nat) (g : av W n k s) (pa : aC n k 0 c) (pb : aC n k c c) (hd : s.dd = false) (hi : (s.aI c).1 = 0) {l : List Rc} {e : Nat} {b : Bool} (hS : s.scan 0 c = (l, e, b)) (z : Nat) (key : List UInt8) (hk : aJ (l.map an) key < 0) (vs va vb v0 v1 : Nat) : Spec Tryz.prog 64 [.ref 0 vs 3 0 0, .bs z key] [⟨vs, .obj [.ref 3 v0 6 0 0, .ref 1 va 3 0 0, .ref 2 vb 3 0 0]⟩, ⟨va, .obj [.ref 3 v0 6 0 0, .val (.int .i64 ((0 : Nat) : Int)), .val (.int .i64 (c : Int))]⟩, ⟨vb, .obj [.ref 3 v0 6 0 0, .val (.int .i64 (c : Int)), .val (.int .i64 (c : Int))]⟩, ⟨v0, .obj [.own 4 v1 1 0 s.l.length, .val (.int .i64 (s.k : Int)), .val (.int .i64 s.ar), .val (.int .i64 s.pt), .val (.bool s.dd), .val (.int .i64 s.wr)]⟩, ⟨v1, .bytes s.l⟩]
   (ak (.al [.val (.slice none 0 0),.val (.bool false),.val (.int .i64 0)]) [⟨vs,.obj [.ref 3 v0 6 0 0,.ref 1 va 3 0 0,.ref 2 vb 3 0 0]⟩,⟨va,.obj [.ref 3 v0 6 0 0,.val (.int .i64 ((0:Nat):Int)),.val (.int .i64 (c:Int))]⟩,⟨vb,.obj [.ref 3 v0 6 0 0,.val (.int .i64 (c:Int)),.val (.int .i64 (c:Int))]⟩,⟨v0,.obj [.own 4 v1 1 0 s.l.length,.val (.int .i64 (s.k:Int)),.val (.int .i64 s.ar),.val (.int .i64 s.pt),.val (.bool s.dd),.val (.int .i64 s.wr)]⟩,⟨v1,.bytes s.l⟩] []):=by
 have b9:=eB g pa hS
 have ff:=l8 s c g pa pb hd hi l e b hS vs va vb v0 v1
 refine aq aj Tryz.func64 rfl Tryz.ntmps64 Tryz.results64 ?_
 refine gg (k:= ?_)
 refine ae (ff) Tryz.call77 (he:=⟨fun _=>⟨rfl,rfl,trivial,trivial⟩,trivial,fun _=>⟨rfl,rfl,trivial,trivial⟩,trivial⟩) 5 [0,1,2,3,4,0,0,0,0,0,0,0,0,0,0,0,0,0,0,0,0,0,0,0,0,0,0,0,0,0,20,21,22] [0,0,0,0,0,0,0,0,0,0,0,0,0,0,0,0,0,0,0,0,0,0,0,0,0,0,0,0,0,0,1,1,1] [30,31,32] ?_
 refine gg (k:= ?_)
 refine ae (iF (ct.of l) b9 z key l.length (l.length+4) 4 (cP l 0).symm) Tryz.call82 (hrows:=⟨⟨fun _=>⟨Nat.lt_succ_self 1,Nat.lt_succ_self 1,trivial,trivial⟩,rfl⟩,⟨trivial,rfl⟩,trivial⟩) (hr2:=⟨fun _=>⟨rfl,rfl,trivial,trivial⟩,trivial,trivial⟩) 2 [20,21] [0,0] [] ?_
 generalize aJ (l.map an) key=L at hk
 refine gg (k:= ?_)
 exact⟨_,rfl,rfl,trivial⟩
theorem EJ {W : Int} {n k : Nat} (s : J) (c : Nat) (g : av W n k s) (pa : aC n k 0 c) (pb : aC n k c c) (hd : s.dd = false) (hi : (s.aI c).1 = 0) {l : List Rc} {e : Nat} {b : Bool} (hS : s.scan 0 c = (l, e, b)) (z : Nat) (key : List UInt8) (j : Nat) (d : Rc) (hj : l[j]? = some d) (hk : aJ (l.map an) key = (j : Int)) (vs va vb v0 v1 : Nat) : Spec Tryz.prog 64 [.ref 0 vs 3 0 0, .bs z key] [⟨vs, .obj [.ref 3 v0 6 0 0, .ref 1 va 3 0 0, .ref 2 vb 3 0 0]⟩, ⟨va, .obj [.ref 3 v0 6 0 0, .val (.int .i64 ((0 : Nat) : Int)), .val (.int .i64 (c : Int))]⟩, ⟨vb, .obj [.ref 3 v0 6 0 0, .val (.int .i64 (c : Int)), .val (.int .i64 (c : Int))]⟩, ⟨v0, .obj [.own 4 v1 1 0 s.l.length, .val (.int .i64 (s.k : Int)), .val (.int .i64 s.ar), .val (.int .i64 s.pt), .val (.bool s.dd), .val (.int .i64 s.wr)]⟩, ⟨v1, .bytes s.l⟩]
   (ak (.al [.pl 21 4 (2*j+1) 0 d.val.length,.val (.bool true),.val (.int .i64 0)]) [⟨vs,.obj [.ref 3 v0 6 0 0,.ref 1 va 3 0 0,.ref 2 vb 3 0 0]⟩,⟨va,.obj [.ref 3 v0 6 0 0,.val (.int .i64 ((0:Nat):Int)),.val (.int .i64 (c:Int))]⟩,⟨vb,.obj [.ref 3 v0 6 0 0,.val (.int .i64 (c:Int)),.val (.int .i64 (c:Int))]⟩,⟨v0,.obj [.own 4 v1 1 0 s.l.length,.val (.int .i64 (s.k:Int)),.val (.int .i64 s.ar),.val (.int .i64 s.pt),.val (.bool s.dd),.val (.int .i64 s.wr)]⟩,⟨v1,.bytes s.l⟩] [(21,⟨4,.aB (cV l)⟩)]):=by
 have b9:=eB g pa hS
 have ff:=l8 s c g pa pb hd hi l e b hS vs va vb v0 v1
 have hr:(bK 0 l).getD j ⟨0,0,0,false⟩=⟨2*j,d.key.length,d.val.length,d.lv⟩:=by rw[List.getD_eq_getElem?_getD,ph l 0 j d hj,Nat.zero_add];rfl
 have iN:j<l.length:=(List.getElem?_eq_some_iff.1 hj).1
 have cY:(bK 0 l).length=l.length:=cP l 0
 refine aq aj Tryz.func64 rfl Tryz.ntmps64 Tryz.results64 ?_
 refine gg (k:= ?_)
 refine ae (ff) Tryz.call77 (he:=⟨fun _=>⟨rfl,rfl,trivial,trivial⟩,trivial,fun _=>⟨rfl,rfl,trivial,trivial⟩,trivial⟩) 5 [0,1,2,3,4,0,0,0,0,0,0,0,0,0,0,0,0,0,0,0,0,0,0,0,0,0,0,0,0,0,20,21,22] [0,0,0,0,0,0,0,0,0,0,0,0,0,0,0,0,0,0,0,0,0,0,0,0,0,0,0,0,0,0,1,1,1] [30,31,32] ?_
 refine gg (k:= ?_)
 refine ae (iF (ct.of l) b9 z key l.length (l.length+4) 4 (cP l 0).symm) Tryz.call82 (hrows:=⟨⟨fun _=>⟨Nat.lt_succ_self 1,Nat.lt_succ_self 1,trivial,trivial⟩,rfl⟩,⟨trivial,rfl⟩,trivial⟩) (hr2:=⟨fun _=>⟨rfl,rfl,trivial,trivial⟩,trivial,trivial⟩) 2 [20,21] [0,0] [] ?_
 rw[hk]
 refine gg (k:= ?_)
 simp only[Int.toNat_natCast,Nat.zero_add,hr]
 refine gg (k:= ?_)
 exact⟨_,rfl,rfl,rfl,trivial⟩
theorem LM {W : Int} {n k : Nat} (s : J) (c : Nat) (g : av W n k s) (pa : aC n k 0 c) (pb : aC n k c c) (hd : s.dd = false) (hi : (s.aI c).1 = 1) {l : List Rc} {e : Nat} {b : Bool} (hS : s.scan c c = (l, e, b)) (z : Nat) (key : List UInt8) (hk : aJ (l.map an) key < 0) (vs va vb v0 v1 : Nat) : Spec Tryz.prog 64 [.ref 0 vs 3 0 0, .bs z key] [⟨vs, .obj [.ref 3 v0 6 0 0, .ref 1 va 3 0 0, .ref 2 vb 3 0 0]⟩, ⟨va, .obj [.ref 3 v0 6 0 0, .val (.int .i64 ((0 : Nat) : Int)), .val (.int .i64 (c : Int))]⟩, ⟨vb, .obj [.ref 3 v0 6 0 0, .val (.int .i64 (c : Int)), .val (.int .i64 (c : Int))]⟩, ⟨v0, .obj [.own 4 v1 1 0 s.l.length, .val (.int .i64 (s.k : Int)), .val (.int .i64 s.ar), .val (.int .i64 s.pt), .val (.bool s.dd), .val (.int .i64 s.wr)]⟩, ⟨v1, .bytes s.l⟩]
   (ak (.al [.val (.slice none 0 0),.val (.bool false),.val (.int .i64 0)]) [⟨vs,.obj [.ref 3 v0 6 0 0,.ref 1 va 3 0 0,.ref 2 vb 3 0 0]⟩,⟨va,.obj [.ref 3 v0 6 0 0,.val (.int .i64 ((0:Nat):Int)),.val (.int .i64 (c:Int))]⟩,⟨vb,.obj [.ref 3 v0 6 0 0,.val (.int .i64 (c:Int)),.val (.int .i64 (c:Int))]⟩,⟨v0,.obj [.own 4 v1 1 0 s.l.length,.val (.int .i64 (s.k:Int)),.val (.int .i64 s.ar),.val (.int .i64 s.pt),.val (.bool s.dd),.val (.int .i64 s.wr)]⟩,⟨v1,.bytes s.l⟩] []):=by
 have b9:=eB g pb hS
 have ff:=l9 s c g pa pb hd hi l e b hS vs va vb v0 v1
 refine aq aj Tryz.func64 rfl Tryz.ntmps64 Tryz.results64 ?_
 refine gg (k:= ?_)
 refine ae (ff) Tryz.call77 (he:=⟨fun _=>⟨rfl,rfl,trivial,trivial⟩,trivial,fun _=>⟨rfl,rfl,trivial,trivial⟩,trivial⟩) 5 [0,1,2,3,4,0,0,0,0,0,0,0,0,0,0,0,0,0,0,0,0,0,0,0,0,0,0,0,0,0,20,21,22] [0,0,0,0,0,0,0,0,0,0,0,0,0,0,0,0,0,0,0,0,0,0,0,0,0,0,0,0,0,0,1,1,1] [30,31,32] ?_
 refine gg (k:= ?_)
 refine ae (iF (ct.of l) b9 z key l.length (l.length+4) 4 (cP l 0).symm) Tryz.call82 (hrows:=⟨⟨fun _=>⟨Nat.lt_succ_self 1,Nat.lt_succ_self 1,trivial,trivial⟩,rfl⟩,⟨trivial,rfl⟩,trivial⟩) (hr2:=⟨fun _=>⟨rfl,rfl,trivial,trivial⟩,trivial,trivial⟩) 2 [20,21] [0,0] [] ?_
 generalize aJ (l.map an) key=L at hk
 refine gg (k:= ?_)
 exact⟨_,rfl,rfl,trivial⟩
theorem EK {W : Int} {n k : Nat} (s : J) (c : Nat) (g : av W n k s) (pa : aC n k 0 c) (pb : aC n k c c) (hd : s.dd = false) (hi : (s.aI c).1 = 1) {l : List Rc} {e : Nat} {b : Bool} (hS : s.scan c c = (l, e, b)) (z : Nat) (key : List UInt8) (j : Nat) (d : Rc) (hj : l[j]? = some d) (hk : aJ (l.map an) key = (j : Int)) (vs va vb v0 v1 : Nat) : Spec Tryz.prog 64 [.ref 0 vs 3 0 0, .bs z key] [⟨vs, .obj [.ref 3 v0 6 0 0, .ref 1 va 3 0 0, .ref 2 vb 3 0 0]⟩, ⟨va, .obj [.ref 3 v0 6 0 0, .val (.int .i64 ((0 : Nat) : Int)), .val (.int .i64 (c : Int))]⟩, ⟨vb, .obj [.ref 3 v0 6 0 0, .val (.int .i64 (c : Int)), .val (.int .i64 (c : Int))]⟩, ⟨v0, .obj [.own 4 v1 1 0 s.l.length, .val (.int .i64 (s.k : Int)), .val (.int .i64 s.ar), .val (.int .i64 s.pt), .val (.bool s.dd), .val (.int .i64 s.wr)]⟩, ⟨v1, .bytes s.l⟩]
   (ak (.al [.pl 21 4 (2*j+1) 0 d.val.length,.val (.bool true),.val (.int .i64 0)]) [⟨vs,.obj [.ref 3 v0 6 0 0,.ref 1 va 3 0 0,.ref 2 vb 3 0 0]⟩,⟨va,.obj [.ref 3 v0 6 0 0,.val (.int .i64 ((0:Nat):Int)),.val (.int .i64 (c:Int))]⟩,⟨vb,.obj [.ref 3 v0 6 0 0,.val (.int .i64 (c:Int)),.val (.int .i64 (c:Int))]⟩,⟨v0,.obj [.own 4 v1 1 0 s.l.length,.val (.int .i64 (s.k:Int)),.val (.int .i64 s.ar),.val (.int .i64 s.pt),.val (.bool s.dd),.val (.int .i64 s.wr)]⟩,⟨v1,.bytes s.l⟩] [(21,⟨4,.aB (cV l)⟩)]):=by
 have b9:=eB g pb hS
 have ff:=l9 s c g pa pb hd hi l e b hS vs va vb v0 v1
 have hr:(bK 0 l).getD j ⟨0,0,0,false⟩=⟨2*j,d.key.length,d.val.length,d.lv⟩:=by rw[List.getD_eq_getElem?_getD,ph l 0 j d hj,Nat.zero_add];rfl
 have iN:j<l.length:=(List.getElem?_eq_some_iff.1 hj).1
 have cY:(bK 0 l).length=l.length:=cP l 0
 refine aq aj Tryz.func64 rfl Tryz.ntmps64 Tryz.results64 ?_
 refine gg (k:= ?_)
 refine ae (ff) Tryz.call77 (he:=⟨fun _=>⟨rfl,rfl,trivial,trivial⟩,trivial,fun _=>⟨rfl,rfl,trivial,trivial⟩,trivial⟩) 5 [0,1,2,3,4,0,0,0,0,0,0,0,0,0,0,0,0,0,0,0,0,0,0,0,0,0,0,0,0,0,20,21,22] [0,0,0,0,0,0,0,0,0,0,0,0,0,0,0,0,0,0,0,0,0,0,0,0,0,0,0,0,0,0,1,1,1] [30,31,32] ?_
 refine gg (k:= ?_)
 refine ae (iF (ct.of l) b9 z key l.length (l.length+4) 4 (cP l 0).symm) Tryz.call82 (hrows:=⟨⟨fun _=>⟨Nat.lt_succ_self 1,Nat.lt_succ_self 1,trivial,trivial⟩,rfl⟩,⟨trivial,rfl⟩,trivial⟩) (hr2:=⟨fun _=>⟨rfl,rfl,trivial,trivial⟩,trivial,trivial⟩) 2 [20,21] [0,0] [] ?_
 rw[hk]
 refine gg (k:= ?_)
 simp only[Int.toNat_natCast,Nat.zero_add,hr]
 refine gg (k:= ?_)
 exact⟨_,rfl,rfl,rfl,trivial⟩
end Go.Proofs.YtpbpiehcchannaaGreatDoor
