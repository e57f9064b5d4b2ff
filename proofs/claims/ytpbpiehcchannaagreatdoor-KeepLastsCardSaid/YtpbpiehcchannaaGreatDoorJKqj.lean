/- The arguments of the laws of a book: things done, variables. The law KeepPlays from its arguments. Conditions: the premises of each law. -/
import Derived.Test.YtpbpiehcchannaaGreatDoorJKp
import Derived.Test.YtpbpiehcchannaaGreatDoorJKqg
namespace Go.Proofs.YtpbpiehcchannaaGreatDoor
set_option linter.unusedVariables false
set_option linter.unusedSimpArgs false
set_option maxRecDepth 100000
set_option maxHeartbeats 1500000
open Go.RowKit Go.ChangeShapes Go.WideShapes Go.ChangeAt
section
variable {W:World} {H:Type} {enc:TypeId×Value→H} {R:Nat}
theorem SX(o:du):bY o=[.val (.int .i64 o.K)]++(aV (.bs 0 o.v.d) o.v++[.val (.int .u8 o.x)]):=rfl
theorem SZ{α:Type}(cs:List α)(h:cs.length=59):cs=(cs.drop 0).take 1++((cs.drop 1).take 57++(cs.drop 58).take 1):=by
 have e:∀a b:Nat,(cs.drop a).take b++cs.drop (a+b)=cs.drop a:=fun a b=>by
  have:=List.take_append_drop b (cs.drop a)
  rw[List.drop_drop] at this
  exact this
 have e6:(cs.drop 58).take 1=cs.drop 58:=List.take_of_length_le (by rw[List.length_drop];omega)
 rw[e6,e 1 57,e 0 1]
 rfl
theorem S1:od Tryz.prog W H enc reachBytes 90 du.Ok bY:=by
 intro fuel cs x h hb
 obtain⟨xs,n,_,lJ,hl,kt,aI⟩:=DataW.trod_struct Tryz.underlying90 h
 have S2:cs.length=59:=hl.trans (by kernel_rfl)
 have S3:xs.length=3:=kt
 have c1:Tryz.prog.cellsOf 3=1:=by kernel_rfl
 have c2:Tryz.prog.cellsOf 77=57:=by kernel_rfl
 have c3:Tryz.prog.cellsOf 5=1:=by kernel_rfl
 obtain⟨x0,x1,x2,rfl⟩:∃u0 u1 u2,xs=[u0,u1,u2]:=by
  match xs,S3 with
  | [a,b,c],_=>exact⟨a,b,c,rfl⟩
 have g0:=aI 0 _ rfl
 have g1:=aI 1 _ rfl
 have g2:=aI 2 _ rfl
 simp only[c1,c2,c3,List.getElem?_cons_zero,List.getElem?_cons_succ] at g0 g1 g2
 subst lJ
 simp only[DataW.weights,Tryz.underlying90,List.map_cons,List.map_nil,DataW.weightsEach,List.mem_append] at hb
 obtain⟨k0,w0,r0⟩:=mr Tryz.underlying3 n _ _ g0
 obtain⟨k1,w1,r1⟩:=Rt n _ _ g1 (fun m hm=>hb m (by simp[hm]))
 obtain⟨k2,w2,r2⟩:=mr Tryz.underlying5 n _ _ g2
 refine⟨⟨k0,k1,k2⟩,⟨bounds_i64 w0,w1,bounds_u8 w2⟩,?_⟩
 rw[SX,SZ cs S2]
 exact ia r0 (ia r1 r2)
end
section
variable {W:World} {H:Type} {enc:TypeId×Value→H} {R:Nat}
theorem S4{r:Reach}{b0:Nat}{v:Value}{d:DataW H}{p:List MemPlace}(hv:Value.okWide Tryz.prog W r b0 92 v)(h:DataW.Trod enc Tryz.prog W 0 (fun _=>true) true 92 v d p)(hb:∀n∈d.weights Tryz.prog 92,n≤reachBytes):∃l:List du,(∀o∈l,o.Ok)∧ae (jy W) W (.sl 0 59 bY nH l) v:=by
 obtain⟨a,n,c,rfl⟩:=okWide_slice Tryz.underlying92 hv
 obtain⟨fuel,hf⟩:=h
 obtain⟨l,⟨⟨_,h0⟩,h1⟩,h2⟩:=Gj Tryz.underlying92 (sz:=59) (by kernel_rfl) (by decide) nH S1 _ _ _ hf hb
 refine⟨l,h1,?_⟩
 simp only[aq] at h2
 obtain⟨u,us,h3,h4,h5⟩:=h2
 subst h5
 simp only[Value.cells,List.cons.injEq,and_true] at h3
 rw[h3];exact h4
end
end Go.Proofs.YtpbpiehcchannaaGreatDoor
