/- Walks of nvram: Get. Walks of nvram: Set. Conditions: the premises of each law. -/
import Derived.Test.YtpbpiehcchannaaGreatDoorJHc
namespace Go.Proofs.YtpbpiehcchannaaGreatDoor
set_option linter.unusedVariables false
set_option linter.unusedSimpArgs false
set_option maxRecDepth 100000
set_option maxHeartbeats 1500000
open Go.RowKit
theorem jI {rs : List Rr} {ps : List (List UInt8)} {la : List RK} (h : cJ rs ps la) (hb : (∀ r ∈ la, r.key.length ≤ 140737488355328 ∧ r.val.length ≤ 140737488355328) ∧ la.length ≤ 140737488355328) (z : Nat) (key : List UInt8) (na va wa : Nat) (br : na = rs.length) :
    Spec Tryz.prog 82 [.own 0 va 3 0 na,.bs z key] [⟨va,.row 3 (b7 1 wa) ⟨0,0,0,false⟩ rs⟩,⟨wa,.az ps⟩]
     (ak (.val (.int .i64 (aT la key))) [⟨va,.row 3 (b7 1 wa) ⟨0,0,0,false⟩ rs⟩,⟨wa,.az ps⟩] []):=
 kC (HK 0 0 la key (fun r hr=>(hb.1 r hr).1) hb.2) trivial trivial (rows:=[⟨va,.row 3 (b7 1 wa) ⟨0,0,0,false⟩ rs⟩,⟨wa,.az ps⟩]) (args:=[.own 0 va 3 0 na,.bs z key])
  (eA (HL h rfl rfl br) (eA sv iq))
theorem OZ {W : Int} {n k : Nat} (s : U) (c : Nat) (g : aw W n k s) (pa : aA n k 0 c) (pb : aA n k c c) (hd : s.dd = false) (hi : (s.a8 c).1 = 0) {l : List Rc} {e : Nat} {b : Bool} (hS : s.scan 0 c = (l, e, b)) (z : Nat) (key : List UInt8) (hk : aT (l.map aj) key < 0) (vs va vb v0 v1 : Nat) : Spec Tryz.prog 64 [.ref 0 vs 3 0 0, .bs z key] [⟨vs, .obj [.ref 3 v0 6 0 0, .ref 1 va 3 0 0, .ref 2 vb 3 0 0]⟩, ⟨va, .obj [.ref 3 v0 6 0 0, .val (.int .i64 ((0 : Nat) : Int)), .val (.int .i64 (c : Int))]⟩, ⟨vb, .obj [.ref 3 v0 6 0 0, .val (.int .i64 (c : Int)), .val (.int .i64 (c : Int))]⟩, ⟨v0, .obj [.own 4 v1 1 0 s.l.length, .val (.int .i64 (s.k : Int)), .val (.int .i64 s.ar), .val (.int .i64 s.pt), .val (.bool s.dd), .val (.int .i64 s.wr)]⟩, ⟨v1, .bytes s.l⟩]
   (ak (.aD [.val (.slice none 0 0),.val (.bool false),.val (.int .i64 0)]) [⟨vs,.obj [.ref 3 v0 6 0 0,.ref 1 va 3 0 0,.ref 2 vb 3 0 0]⟩,⟨va,.obj [.ref 3 v0 6 0 0,.val (.int .i64 ((0:Nat):Int)),.val (.int .i64 (c:Int))]⟩,⟨vb,.obj [.ref 3 v0 6 0 0,.val (.int .i64 (c:Int)),.val (.int .i64 (c:Int))]⟩,⟨v0,.obj [.own 4 v1 1 0 s.l.length,.val (.int .i64 (s.k:Int)),.val (.int .i64 s.ar),.val (.int .i64 s.pt),.val (.bool s.dd),.val (.int .i64 s.wr)]⟩,⟨v1,.bytes s.l⟩] []):=by
 have cG:=fI g pa hS
 have fR:=nC s c g pa pb hd hi l e b hS vs va vb v0 v1
 refine ax ai Tryz.func64 rfl Tryz.ntmps64 Tryz.results64 ?_
 refine gg ?_
 refine af (fR) Tryz.call77 (he:=⟨fun _=>⟨rfl,rfl,trivial,trivial⟩,trivial,fun _=>⟨rfl,rfl,trivial,trivial⟩,trivial⟩) 5 [0,1,2,3,4,0,0,0,0,0,0,0,0,0,0,0,0,0,0,0,0,0,0,0,0,0,0,0,0,0,20,21,22] [0,0,0,0,0,0,0,0,0,0,0,0,0,0,0,0,0,0,0,0,0,0,0,0,0,0,0,0,0,0,1,1,1] [30,31,32] ?_
 refine gg ?_
 refine af (jI (cJ.of l) cG z key l.length (l.length+4) 4 (di l 0).symm) Tryz.call82 (hrows:=⟨⟨fun _=>⟨Nat.lt_succ_self 1,Nat.lt_succ_self 1,trivial,trivial⟩,rfl⟩,⟨trivial,rfl⟩,trivial⟩) (hr2:=⟨fun _=>⟨rfl,rfl,trivial,trivial⟩,trivial,trivial⟩) 2 [20,21] [0,0] [] ?_
 generalize aT (l.map aj) key=L at hk
 refine gg ?_
 exact⟨_,rfl,rfl,trivial⟩
theorem O0 {W : Int} {n k : Nat} (s : U) (c : Nat) (g : aw W n k s) (pa : aA n k 0 c) (pb : aA n k c c) (hd : s.dd = false) (hi : (s.a8 c).1 = 0) {l : List Rc} {e : Nat} {b : Bool} (hS : s.scan 0 c = (l, e, b)) (z : Nat) (key : List UInt8) (j : Nat) (d : Rc) (hj : l[j]? = some d) (hk : aT (l.map aj) key = (j : Int)) (vs va vb v0 v1 : Nat) : Spec Tryz.prog 64 [.ref 0 vs 3 0 0, .bs z key] [⟨vs, .obj [.ref 3 v0 6 0 0, .ref 1 va 3 0 0, .ref 2 vb 3 0 0]⟩, ⟨va, .obj [.ref 3 v0 6 0 0, .val (.int .i64 ((0 : Nat) : Int)), .val (.int .i64 (c : Int))]⟩, ⟨vb, .obj [.ref 3 v0 6 0 0, .val (.int .i64 (c : Int)), .val (.int .i64 (c : Int))]⟩, ⟨v0, .obj [.own 4 v1 1 0 s.l.length, .val (.int .i64 (s.k : Int)), .val (.int .i64 s.ar), .val (.int .i64 s.pt), .val (.bool s.dd), .val (.int .i64 s.wr)]⟩, ⟨v1, .bytes s.l⟩]
   (ak (.aD [.pl 21 4 (2*j+1) 0 d.val.length,.val (.bool true),.val (.int .i64 0)]) [⟨vs,.obj [.ref 3 v0 6 0 0,.ref 1 va 3 0 0,.ref 2 vb 3 0 0]⟩,⟨va,.obj [.ref 3 v0 6 0 0,.val (.int .i64 ((0:Nat):Int)),.val (.int .i64 (c:Int))]⟩,⟨vb,.obj [.ref 3 v0 6 0 0,.val (.int .i64 (c:Int)),.val (.int .i64 (c:Int))]⟩,⟨v0,.obj [.own 4 v1 1 0 s.l.length,.val (.int .i64 (s.k:Int)),.val (.int .i64 s.ar),.val (.int .i64 s.pt),.val (.bool s.dd),.val (.int .i64 s.wr)]⟩,⟨v1,.bytes s.l⟩] [(21,⟨4,.az (dI l)⟩)]):=by
 have cG:=fI g pa hS
 have fR:=nC s c g pa pb hd hi l e b hS vs va vb v0 v1
 have hr:(bX 0 l).getD j ⟨0,0,0,false⟩=⟨2*j,d.key.length,d.val.length,d.lv⟩:=by rw[List.getD_eq_getElem?_getD,qW l 0 j d hj,Nat.zero_add];rfl
 have lr:j<l.length:=(List.getElem?_eq_some_iff.1 hj).1
 have gP:(bX 0 l).length=l.length:=di l 0
 refine ax ai Tryz.func64 rfl Tryz.ntmps64 Tryz.results64 ?_
 refine gg ?_
 refine af (fR) Tryz.call77 (he:=⟨fun _=>⟨rfl,rfl,trivial,trivial⟩,trivial,fun _=>⟨rfl,rfl,trivial,trivial⟩,trivial⟩) 5 [0,1,2,3,4,0,0,0,0,0,0,0,0,0,0,0,0,0,0,0,0,0,0,0,0,0,0,0,0,0,20,21,22] [0,0,0,0,0,0,0,0,0,0,0,0,0,0,0,0,0,0,0,0,0,0,0,0,0,0,0,0,0,0,1,1,1] [30,31,32] ?_
 refine gg ?_
 refine af (jI (cJ.of l) cG z key l.length (l.length+4) 4 (di l 0).symm) Tryz.call82 (hrows:=⟨⟨fun _=>⟨Nat.lt_succ_self 1,Nat.lt_succ_self 1,trivial,trivial⟩,rfl⟩,⟨trivial,rfl⟩,trivial⟩) (hr2:=⟨fun _=>⟨rfl,rfl,trivial,trivial⟩,trivial,trivial⟩) 2 [20,21] [0,0] [] ?_
 rw[hk]
 refine gg ?_
 simp only[Int.toNat_natCast,Nat.zero_add,hr]
 refine gg ?_
 exact⟨_,rfl,rfl,rfl,trivial⟩
theorem O3 {W : Int} {n k : Nat} (s : U) (c : Nat) (g : aw W n k s) (pa : aA n k 0 c) (pb : aA n k c c) (hd : s.dd = false) (hi : (s.a8 c).1 = 1) {l : List Rc} {e : Nat} {b : Bool} (hS : s.scan c c = (l, e, b)) (z : Nat) (key : List UInt8) (hk : aT (l.map aj) key < 0) (vs va vb v0 v1 : Nat) : Spec Tryz.prog 64 [.ref 0 vs 3 0 0, .bs z key] [⟨vs, .obj [.ref 3 v0 6 0 0, .ref 1 va 3 0 0, .ref 2 vb 3 0 0]⟩, ⟨va, .obj [.ref 3 v0 6 0 0, .val (.int .i64 ((0 : Nat) : Int)), .val (.int .i64 (c : Int))]⟩, ⟨vb, .obj [.ref 3 v0 6 0 0, .val (.int .i64 (c : Int)), .val (.int .i64 (c : Int))]⟩, ⟨v0, .obj [.own 4 v1 1 0 s.l.length, .val (.int .i64 (s.k : Int)), .val (.int .i64 s.ar), .val (.int .i64 s.pt), .val (.bool s.dd), .val (.int .i64 s.wr)]⟩, ⟨v1, .bytes s.l⟩]
   (ak (.aD [.val (.slice none 0 0),.val (.bool false),.val (.int .i64 0)]) [⟨vs,.obj [.ref 3 v0 6 0 0,.ref 1 va 3 0 0,.ref 2 vb 3 0 0]⟩,⟨va,.obj [.ref 3 v0 6 0 0,.val (.int .i64 ((0:Nat):Int)),.val (.int .i64 (c:Int))]⟩,⟨vb,.obj [.ref 3 v0 6 0 0,.val (.int .i64 (c:Int)),.val (.int .i64 (c:Int))]⟩,⟨v0,.obj [.own 4 v1 1 0 s.l.length,.val (.int .i64 (s.k:Int)),.val (.int .i64 s.ar),.val (.int .i64 s.pt),.val (.bool s.dd),.val (.int .i64 s.wr)]⟩,⟨v1,.bytes s.l⟩] []):=by
 have cG:=fI g pb hS
 have fR:=nD s c g pa pb hd hi l e b hS vs va vb v0 v1
 refine ax ai Tryz.func64 rfl Tryz.ntmps64 Tryz.results64 ?_
 refine gg ?_
 refine af (fR) Tryz.call77 (he:=⟨fun _=>⟨rfl,rfl,trivial,trivial⟩,trivial,fun _=>⟨rfl,rfl,trivial,trivial⟩,trivial⟩) 5 [0,1,2,3,4,0,0,0,0,0,0,0,0,0,0,0,0,0,0,0,0,0,0,0,0,0,0,0,0,0,20,21,22] [0,0,0,0,0,0,0,0,0,0,0,0,0,0,0,0,0,0,0,0,0,0,0,0,0,0,0,0,0,0,1,1,1] [30,31,32] ?_
 refine gg ?_
 refine af (jI (cJ.of l) cG z key l.length (l.length+4) 4 (di l 0).symm) Tryz.call82 (hrows:=⟨⟨fun _=>⟨Nat.lt_succ_self 1,Nat.lt_succ_self 1,trivial,trivial⟩,rfl⟩,⟨trivial,rfl⟩,trivial⟩) (hr2:=⟨fun _=>⟨rfl,rfl,trivial,trivial⟩,trivial,trivial⟩) 2 [20,21] [0,0] [] ?_
 generalize aT (l.map aj) key=L at hk
 refine gg ?_
 exact⟨_,rfl,rfl,trivial⟩
theorem O4 {W : Int} {n k : Nat} (s : U) (c : Nat) (g : aw W n k s) (pa : aA n k 0 c) (pb : aA n k c c) (hd : s.dd = false) (hi : (s.a8 c).1 = 1) {l : List Rc} {e : Nat} {b : Bool} (hS : s.scan c c = (l, e, b)) (z : Nat) (key : List UInt8) (j : Nat) (d : Rc) (hj : l[j]? = some d) (hk : aT (l.map aj) key = (j : Int)) (vs va vb v0 v1 : Nat) : Spec Tryz.prog 64 [.ref 0 vs 3 0 0, .bs z key] [⟨vs, .obj [.ref 3 v0 6 0 0, .ref 1 va 3 0 0, .ref 2 vb 3 0 0]⟩, ⟨va, .obj [.ref 3 v0 6 0 0, .val (.int .i64 ((0 : Nat) : Int)), .val (.int .i64 (c : Int))]⟩, ⟨vb, .obj [.ref 3 v0 6 0 0, .val (.int .i64 (c : Int)), .val (.int .i64 (c : Int))]⟩, ⟨v0, .obj [.own 4 v1 1 0 s.l.length, .val (.int .i64 (s.k : Int)), .val (.int .i64 s.ar), .val (.int .i64 s.pt), .val (.bool s.dd), .val (.int .i64 s.wr)]⟩, ⟨v1, .bytes s.l⟩]
   (ak (.aD [.pl 21 4 (2*j+1) 0 d.val.length,.val (.bool true),.val (.int .i64 0)]) [⟨vs,.obj [.ref 3 v0 6 0 0,.ref 1 va 3 0 0,.ref 2 vb 3 0 0]⟩,⟨va,.obj [.ref 3 v0 6 0 0,.val (.int .i64 ((0:Nat):Int)),.val (.int .i64 (c:Int))]⟩,⟨vb,.obj [.ref 3 v0 6 0 0,.val (.int .i64 (c:Int)),.val (.int .i64 (c:Int))]⟩,⟨v0,.obj [.own 4 v1 1 0 s.l.length,.val (.int .i64 (s.k:Int)),.val (.int .i64 s.ar),.val (.int .i64 s.pt),.val (.bool s.dd),.val (.int .i64 s.wr)]⟩,⟨v1,.bytes s.l⟩] [(21,⟨4,.az (dI l)⟩)]):=by
 have cG:=fI g pb hS
 have fR:=nD s c g pa pb hd hi l e b hS vs va vb v0 v1
 have hr:(bX 0 l).getD j ⟨0,0,0,false⟩=⟨2*j,d.key.length,d.val.length,d.lv⟩:=by rw[List.getD_eq_getElem?_getD,qW l 0 j d hj,Nat.zero_add];rfl
 have lr:j<l.length:=(List.getElem?_eq_some_iff.1 hj).1
 have gP:(bX 0 l).length=l.length:=di l 0
 refine ax ai Tryz.func64 rfl Tryz.ntmps64 Tryz.results64 ?_
 refine gg ?_
 refine af (fR) Tryz.call77 (he:=⟨fun _=>⟨rfl,rfl,trivial,trivial⟩,trivial,fun _=>⟨rfl,rfl,trivial,trivial⟩,trivial⟩) 5 [0,1,2,3,4,0,0,0,0,0,0,0,0,0,0,0,0,0,0,0,0,0,0,0,0,0,0,0,0,0,20,21,22] [0,0,0,0,0,0,0,0,0,0,0,0,0,0,0,0,0,0,0,0,0,0,0,0,0,0,0,0,0,0,1,1,1] [30,31,32] ?_
 refine gg ?_
 refine af (jI (cJ.of l) cG z key l.length (l.length+4) 4 (di l 0).symm) Tryz.call82 (hrows:=⟨⟨fun _=>⟨Nat.lt_succ_self 1,Nat.lt_succ_self 1,trivial,trivial⟩,rfl⟩,⟨trivial,rfl⟩,trivial⟩) (hr2:=⟨fun _=>⟨rfl,rfl,trivial,trivial⟩,trivial,trivial⟩) 2 [20,21] [0,0] [] ?_
 rw[hk]
 refine gg ?_
 simp only[Int.toNat_natCast,Nat.zero_add,hr]
 refine gg ?_
 exact⟨_,rfl,rfl,rfl,trivial⟩
theorem O5(x:List UInt8):∀(n a:Nat),x.length - a=n→aP ((cu x a).1.map aj)≤n:=by
 intro n
 induction n using Nat.strongRecOn with
 | _ n ih=>
  intro a ha
  by_cases h:a<x.length∧x.getD a 0≠255
  ·by_cases hr:iu (x.drop a)
   ·rw[vF h hr]
    have hN:=vE (x.drop a)
    have hx:=hr.2.2.2.2.2.1
    rw[List.length_drop] at hx
    have h2:=ih (x.length - (a+dY (x.drop a))) (by omega) (a+dY (x.drop a)) rfl
    have hk:(dQ (x.drop a)).length+(eB (x.drop a)).length+12≤dY (x.drop a):=by
     unfold dQ eB
     rw[List.length_drop,List.length_drop,List.length_take,List.length_take,List.length_drop]
     have e1:dY (x.drop a)=12+bw (x.drop a)+fP (x.drop a):=rfl
     omega
    simp only[List.map_cons,aP,aj]
    omega
   ·rw[vG h hr]
    exact Nat.zero_le _
  ·rw[sO h]
   exact Nat.zero_le _
theorem O6{a b:List RK}(h:a.Sublist b):aP a≤aP b:=by
 induction h with
 | slnil=>exact Nat.le_refl _
 | cons x _ ih=>simp only[aP];omega
 | cons_cons x _ ih=>simp only[aP];omega
theorem HM(l:List RK):∀n:Nat,n≤l.length→((dA l n).map fun j=>l.getD j bG).Sublist (l.take n)
 | 0,_=>by simp[dA]
 | n+1,h=>by
  have ih:=HM l n (by omega)
  rw[sW,List.map_append,List.take_succ_eq_append_getElem (by omega)]
  refine List.Sublist.append ih ?_
  split
  ·rw[List.map_cons,List.map_nil,List.getD_eq_getElem?_getD,List.getElem?_eq_getElem (by omega)]
   exact List.Sublist.refl _
  ·exact List.nil_sublist _
theorem iL(l:List RK):(b8 l).Sublist l:=by
 have:=HM l l.length (Nat.le_refl _)
 rw[List.take_length] at this
 exact this
theorem cJ.kept(l:List Rc):cJ (cN l l.length) (dI l) (b8 (l.map aj)):=by
 have h:=cJ.of l
 refine⟨by simp[cN,b8],fun i x y hx hy=> ?_⟩
 unfold cN at hx
 unfold b8 at hy
 rw[List.length_map] at hy
 rw[List.getElem?_map] at hx hy
 obtain⟨j,hj,rfl⟩:=Option.map_eq_some_iff.1 hx
 obtain⟨j',ke,rfl⟩:=Option.map_eq_some_iff.1 hy
 rw[hj] at ke
 obtain rfl:=Option.some.inj ke
 have lr:j<l.length:=by
  have:=List.mem_of_getElem? hj
  unfold dA at this
  exact List.mem_range.1 (List.mem_filter.1 this).1
 refine h.el j _ _ ?_ ?_
 ·rw[List.getD_eq_getElem?_getD,List.getElem?_eq_getElem (by rw[di];exact lr)];rfl
 ·rw[List.getD_eq_getElem?_getD,List.getElem?_eq_getElem (by rw[List.length_map];exact lr)];rfl
theorem yt{W:Int}{n k:Nat}{s:U}{a c:Nat}(g:aw W n k s)(p:aA n k a c){l:List Rc}{e:Nat}{b:Bool}(hS:s.scan a c=(l,e,b)):aP (b8 (l.map aj))≤4194304:=by
 have jg:=g.len
 have HN:(s.cZ a c).length≤4194304:=by unfold U.cZ;rw[List.length_take,List.length_drop,g.l];omega
 have h1:=O5 (s.cZ a c) _ 16 rfl
 rw[show cu (s.cZ a c) 16=(l,e,b) from hS] at h1
 have h2:=O6 (iL (l.map aj))
 simp only at h1
 omega
end Go.Proofs.YtpbpiehcchannaaGreatDoor
