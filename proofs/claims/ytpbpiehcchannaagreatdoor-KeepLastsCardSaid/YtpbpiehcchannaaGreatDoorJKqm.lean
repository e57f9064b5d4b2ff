/- The law KeepLasts from its arguments. Conditions: none. -/
import Derived.Test.YtpbpiehcchannaaGreatDoorJKqj
import Derived.Test.YtpbpiehcchannaaGreatDoorJKqk
namespace Go.Proofs.YtpbpiehcchannaaGreatDoor
set_option linter.unusedVariables false
set_option linter.unusedSimpArgs false
set_option maxRecDepth 100000
set_option maxHeartbeats 1500000
open Go.RowKit Go.ChangeShapes Go.WideShapes Go.ChangeAt
section
variable {W:World} {H:Type} {enc:TypeId×Value→H} {R:Nat}
theorem Te:od Tryz.prog W H enc reachBytes 118 pR.Ok wu:=by
 intro fuel cs x h hb
 obtain⟨xs,n,_,lJ,hl,kt,aI⟩:=DataW.trod_struct Tryz.underlying118 h
 have Tf:cs.length=2:=hl.trans (by kernel_rfl)
 have Tg:xs.length=2:=kt
 have c3:Tryz.prog.cellsOf 57=1:=by kernel_rfl
 obtain⟨u0,u1,rfl⟩:∃u0 u1,cs=[u0,u1]:=by
  match cs,Tf with
  | [a,b],_=>exact⟨a,b,rfl⟩
 obtain⟨x0,x1,rfl⟩:∃u0 u1,xs=[u0,u1]:=by
  match xs,Tg with
  | [a,b],_=>exact⟨a,b,rfl⟩
 have g0:=aI 0 _ rfl
 have g1:=aI 1 _ rfl
 simp only[c3,List.drop_zero,List.drop_succ_cons,List.take_succ_cons,List.take_zero,List.getElem?_cons_zero,List.getElem?_cons_succ] at g0 g1
 obtain⟨k0,w0,r0⟩:=mr Tryz.underlying57 n _ _ g0
 obtain⟨k1,w1,r1⟩:=mr Tryz.underlying57 n _ _ g1
 refine⟨⟨k0,k1⟩,⟨bounds_u16 w0,bounds_u16 w1⟩,?_⟩
 simp only[wu]
 exact ia r0 r1
theorem Th{r:Reach}{b0:Nat}{v:Value}{d:DataW H}{p:List MemPlace}(hv:Value.okWide Tryz.prog W r b0 117 v)(h:DataW.Trod enc Tryz.prog W 0 (fun _=>true) true 117 v d p)(hb:∀n∈d.weights Tryz.prog 117,n≤reachBytes):∃l:List pR,(∀o∈l,o.Ok)∧ae (jy W) W (.sl 0 2 wu tt l) v:=by
 obtain⟨a,n,c,rfl⟩:=okWide_slice Tryz.underlying117 hv
 obtain⟨fuel,hf⟩:=h
 obtain⟨l,⟨⟨_,h0⟩,h1⟩,h2⟩:=Gj Tryz.underlying117 (sz:=2) (by kernel_rfl) (by decide) tt Te _ _ _ hf hb
 refine⟨l,h1,?_⟩
 simp only[aq] at h2
 obtain⟨u,us,h3,h4,h5⟩:=h2
 subst h5
 simp only[Value.cells,List.cons.injEq,and_true] at h3
 rw[h3];exact h4
end
theorem Ti (W : World) (hL : laidMetH Tryz.prog tp W) (z : Int) (wz : (Lit.int .u16 z).wf = true) (v : Value) (l : List du) (hl : (∀ o ∈ l, o.Ok) ∧ ae (jy W) W (.sl 0 59 bY nH l) v) (v1 : Value) (fs : List pR) (h1 : (∀ o ∈ fs, o.Ok) ∧ ae (jy W) W (.sl 0 2 wu tt fs) v1) :
    Calls Tryz.prog 11 #[.int .u16 z,v,v1] W fun e W'=>e= .returned (.bool true)∧Below W.heap.size W W':=
 MD (Ta z (bounds_u16 wz) l hl.1 fs h1.1) (cargs:=[.int .u16 z,v,v1]) (by simp only[aq];exact⟨_,_,rfl,by rw[ae],_,_,rfl,hl.2,_,_,rfl,h1.2,rfl⟩) (Rl hL)
end Go.Proofs.YtpbpiehcchannaaGreatDoor
