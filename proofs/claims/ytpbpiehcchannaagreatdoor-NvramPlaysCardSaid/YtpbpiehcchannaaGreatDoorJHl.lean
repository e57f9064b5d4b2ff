/- Walks of the law from arguments. Conditions: the premises of each law. -/
import Derived.Test.YtpbpiehcchannaaGreatDoorJAw
import Derived.Test.YtpbpiehcchannaaGreatDoorJAd
import Derived.Test.YtpbpiehcchannaaGreatDoorJHq
import Derived.Lib.LaidTab
import Derived.LaidMore
import Derived.Test.YtpbpiehcchannaaGreatDoorJNkh
namespace Go.Proofs.YtpbpiehcchannaaGreatDoor
open Go.RowKit Go.ChangeShapes Go.WideShapes Go.ChangeAt
set_option linter.unusedVariables false
set_option linter.unusedSimpArgs false
set_option maxRecDepth 100000
set_option maxHeartbeats 1500000
section
variable {W:World} {H:Type} {enc:TypeId×Value→H}
theorem Lw:u5 Tryz.prog W H enc reachBytes 26 fE (aN 0):=by
 intro fuel cs x h hb
 obtain⟨xs,n,_,yI,hl,ny,aL⟩:=DataW.trod_struct Tryz.underlying26 h
 have Lx:cs.length=5:=hl.trans (by kernel_rfl)
 have Ly:xs.length=5:=ny
 have c3:Tryz.prog.cellsOf 3=1:=by kernel_rfl
 have Lz:Tryz.prog.cellsOf 23=1:=by kernel_rfl
 obtain⟨u0,u1,u2,u3,u4,rfl⟩:∃u0 u1 u2 u3 u4,cs=[u0,u1,u2,u3,u4]:=by
  match cs,Lx with
  | [a,b,c,d,e],_=>exact⟨a,b,c,d,e,rfl⟩
 obtain⟨x0,x1,x2,x3,x4,rfl⟩:∃u0 u1 u2 u3 u4,xs=[u0,u1,u2,u3,u4]:=by
  match xs,Ly with
  | [a,b,c,d,e],_=>exact⟨a,b,c,d,e,rfl⟩
 have g0:=aL 0 _ rfl
 have g1:=aL 1 _ rfl
 have g2:=aL 2 _ rfl
 have g3:=aL 3 _ rfl
 have g4:=aL 4 _ rfl
 simp only[c3,Lz,List.drop_zero,List.drop_succ_cons,List.take_succ_cons,List.take_zero,List.getElem?_cons_zero,List.getElem?_cons_succ] at g0 g1 g2 g3 g4
 subst yI
 simp only[DataW.weights,Tryz.underlying26,List.map_cons,List.map_nil,DataW.weightsEach,List.mem_append] at hb
 obtain⟨k0,w0,r0⟩:=yH Tryz.underlying3 n _ _ g0
 obtain⟨k1,w1,r1⟩:=yH Tryz.underlying3 n _ _ g1
 obtain⟨k2,w2,r2⟩:=yH Tryz.underlying3 n _ _ g2
 obtain⟨k3,w3,r3⟩:=Dc Tryz.underlying23 Tryz.underlying5 (by kernel_rfl) (by kernel_rfl) n _ _ g3 (fun m hm=>hb m (by simp[hm]))
 obtain⟨k4,w4,r4⟩:=Dc Tryz.underlying23 Tryz.underlying5 (by kernel_rfl) (by kernel_rfl) n _ _ g4 (fun m hm=>hb m (by simp[hm]))
 refine⟨⟨k0,k1,k2,k3,k4⟩,⟨bounds_i64 w0,bounds_i64 w1,bounds_i64 w2,Nat.le_trans w3 (by decide),Nat.le_trans w4 (by decide)⟩,?_⟩
 simp only[aN]
 exact lA r0 (lA r1 (lA r2 (lA r3 r4)))
theorem LA{r:Reach}{b0:Nat}{v:Value}{d:DataW H}{p:List MemPlace}(hv:Value.okWide Tryz.prog W r b0 22 v)(h:DataW.Trod enc Tryz.prog W 0 (fun _=>true) true 22 v d p)(hb:∀n∈d.weights Tryz.prog 22,n≤reachBytes):∃l:List dg,(l.length*72≤reachBytes∧∀o∈l,fE o)∧ah (kp W) W (.sl 0 5 (aN 0) lj l) v:=by
 obtain⟨a,n,c,rfl⟩:=okWide_slice Tryz.underlying22 hv
 obtain⟨fuel,hf⟩:=h
 have e:Tryz.prog.bytesOf 26=72:=by kernel_rfl
 obtain⟨l,⟨⟨_,h0⟩,h1⟩,h2⟩:=Jn Tryz.underlying22 (sz:=5) (by kernel_rfl) (by decide) lj Lw _ _ _ hf hb
 rw[e] at h0
 refine⟨l,⟨h0,h1⟩,?_⟩
 simp only[aw] at h2
 obtain⟨u,us,h3,h4,h5⟩:=h2
 subst h5
 simp only[Value.cells,List.cons.injEq,and_true] at h3
 rw[h3];exact h4
end
def vL:List Int:=[0,498536548,997073096,651767980,1994146192,1802195444,1303535960,1342533948,3988292384,4027552580,3604390888,3412177804,2607071920,2262029012,2685067896,3183342108]
def rb:List (String×DataW Unit):=[("lintel/crc.table",Rows.laid_lintel_crc_table)]
theorem EG:Tryz.prog.globalNamed "lintel/crc.table" =some 1:=by kernel_rfl
theorem LB:(Tryz.prog.globals[1]?).map (·.type)=some 262:=by kernel_rfl
theorem LC:pO 1=some (vL.map fun z=>Value.int .u32 z):=rfl
theorem LD{W:World}(h:laidMetH Tryz.prog rb W):Gl (kp W) W:=by
 rw[MakeChecks.laidMetH_plain _ _ _ (by kernel_rfl)] at h
 have hT:Lib.TabIs Tryz.prog W "lintel/crc.table" .u32 vL:=Lib.tabIs_of_head EG LB Tryz.underlying262 Tryz.underlying72 (by kernel_rfl) (by kernel_rfl) (show laidMet Tryz.prog (("lintel/crc.table",Lib.tabData .u32 vL)::[]) W from h)
 intro g cs hg
 have h1:g=1:=by
  unfold pO at hg
  split at hg
  ·rfl
  ·cases hg
 subst h1
 obtain rfl:=Option.some.inj (LC.symm.trans hg)
 have cW:∀(j:Nat)(u:Value),(vL.map fun z=>Value.int .u32 z)[j]? =some u→W.cell? ⟨1,j,none⟩=some u:=fun j u hu=>by
  rw[List.getElem?_map] at hu
  obtain⟨z,hz,rfl⟩:=Option.map_eq_some_iff.1 hu
  obtain⟨hj,nN⟩:=List.getElem?_eq_some_iff.1 hz
  rw[hT.cell EG j hj,List.getD_eq_getElem?_getD,hz];rfl
 refine⟨⟨rfl,?_⟩,cW⟩
 have h0:=cW 0 _ rfl
 unfold World.cell? at h0
 simp only at h0
 cases hb:W.heap[1]? with
 | none=>simp[hb] at h0
 | some _=>exact(Array.getElem?_eq_some_iff.1 hb).1
open Go.RowKit Go.ChangeShapes Go.WideShapes Go.ChangeAt
theorem LF(W:World)(hL:laidMetH Tryz.prog rb W)(a:Int)(wa:(Lit.int .i64 a).wf=true)(b:Int)(wb:(Lit.int .i64 b).wf=true)(v:Value)(l:List dg)(h:(l.length*72≤reachBytes∧∀o∈l,fE o)∧ah (kp W) W (.sl 0 5 (aN 0) lj l) v):
    Calls Tryz.prog 6 #[.int .i64 a,.int .i64 b,v] W fun e W'=>e= .returned (.bool true)∧Below W.heap.size W W':=
 Jk (LG a b (bounds_i64 wa) (bounds_i64 wb) l h.1.2) (cargs:=[.int .i64 a,.int .i64 b,v]) (by simp only[aw,ah,Value.cells];exact⟨_,_,rfl,rfl,_,_,rfl,rfl,_,_,rfl,h.2,rfl⟩) (LD hL)
end Go.Proofs.YtpbpiehcchannaaGreatDoor
