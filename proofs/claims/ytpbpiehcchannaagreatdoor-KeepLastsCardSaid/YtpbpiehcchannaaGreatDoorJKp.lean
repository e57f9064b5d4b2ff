/- The table that is laid. The arguments of the laws of a book. Conditions: the premises of each law. -/
import Derived.Test.YtpbpiehcchannaaGreatDoorJAd
import Derived.Lib.LaidTab
import Derived.LaidMore
import Derived.Test.YtpbpiehcchannaaGreatDoorJKj
namespace Go.Proofs.YtpbpiehcchannaaGreatDoor
set_option linter.unusedVariables false
set_option linter.unusedSimpArgs false
set_option maxRecDepth 100000
set_option maxHeartbeats 1500000
open Go.RowKit Go.ChangeShapes Go.WideShapes Go.ChangeAt
def yQ:List Int:=[0,498536548,997073096,651767980,1994146192,1802195444,1303535960,1342533948,3988292384,4027552580,3604390888,3412177804,2607071920,2262029012,2685067896,3183342108]
def tp:List (String×DataW Unit):=[("lintel/crc.table",Rows.laid_lintel_crc_table)]
theorem Jo:Tryz.prog.globalNamed "lintel/crc.table" =some 1:=by kernel_rfl
theorem Rj:(Tryz.prog.globals[1]?).map (·.type)=some 262:=by kernel_rfl
theorem Rk:rD 1=some (yQ.map fun z=>Value.int .u32 z):=rfl
theorem Rl{W:World}(h:laidMetH Tryz.prog tp W):Gl (jy W) W:=by
 rw[MakeChecks.laidMetH_plain _ _ _ (by kernel_rfl)] at h
 have hT:Lib.TabIs Tryz.prog W "lintel/crc.table" .u32 yQ:=Lib.tabIs_of_head Jo Rj Tryz.underlying262 Tryz.underlying72 (by kernel_rfl) (by kernel_rfl) (show laidMet Tryz.prog (("lintel/crc.table",Lib.tabData .u32 yQ)::[]) W from h)
 intro g cs hg
 have h1:g=1:=by
  unfold rD at hg
  split at hg
  ·rfl
  ·cases hg
 subst h1
 obtain rfl:=Option.some.inj (Rk.symm.trans hg)
 have cT:∀(j:Nat)(u:Value),(yQ.map fun z=>Value.int .u32 z)[j]? =some u→W.cell? ⟨1,j,none⟩=some u:=fun j u hu=>by
  rw[List.getElem?_map] at hu
  obtain⟨z,hz,rfl⟩:=Option.map_eq_some_iff.1 hu
  obtain⟨hj,o6⟩:=List.getElem?_eq_some_iff.1 hz
  rw[hT.cell Jo j hj,List.getD_eq_getElem?_getD,hz];rfl
 refine⟨⟨rfl,?_⟩,cT⟩
 have h0:=cT 0 _ rfl
 unfold World.cell? at h0
 simp only at h0
 cases hb:W.heap[1]? with
 | none=>simp[hb] at h0
 | some _=>exact(Array.getElem?_eq_some_iff.1 hb).1
section
variable {W:World} {H:Type} {enc:TypeId×Value→H} {R:Nat}
theorem Rm{T:TypeId}(hT:Tryz.prog.underlying T=some .string):od Tryz.prog W H enc R T (fun s:ByteArray=>s.size≤R) (fun s=>[.val (.string s)]):=by
 intro fuel cs x h hb
 obtain⟨s,e0,e1,_⟩:=DataW.trod_string hT h
 refine⟨s,?_,?_⟩
 ·subst e1
  have:=hb s.data.toList.length (by simp[DataW.weights])
  simpa using this
 ·rw[e0]
  simp only[aq,ae]
  exact⟨_,_,rfl,rfl,rfl⟩
theorem Jp{T E n:Nat}(hT:Tryz.prog.underlying T=some (.array n E))(hE:Tryz.prog.underlying E=some (.int .u8))(ib:Tryz.prog.cellsOf T=n)(Rn:Tryz.prog.cellsOf E=1):od Tryz.prog W H enc R T (fun g:List UInt8=>g.length=n) (fun g=>bC n g):=by
 intro fuel cs x h _
 obtain⟨xs,m,rfl,hx,hl,kt,aI⟩:=DataW.trod_array hT h
 have de:cs.length=n:=by rw[hl,ib]
 obtain⟨g,hg⟩:=By cs (fun i hi=>by
  have bP:i<n:=by omega
  have h1:=aI i bP
  rw[Rn,Nat.mul_one] at h1
  have tU:xs[i]? =some xs[i]:=List.getElem?_eq_getElem (by omega)
  rw[tU] at h1
  have e:(cs.drop i).take 1=[cs[i]]:=by
   rw[List.drop_eq_getElem_cons hi];rfl
  rw[e] at h1
  obtain⟨a,e0,_,wa⟩:=DataW.trod_int hE h1
  simp only[List.cons.injEq,and_true] at e0
  obtain⟨b,hb⟩:=Gg wa
  exact⟨b,by rw[List.getElem?_eq_getElem hi,e0,hb]⟩)
 have jg:g.length=n:=by rw[←de,hg];simp
 refine⟨g,jg,?_⟩
 have:=EH (jy W) W g n
 rw[rn g n jg] at this
 rw[hg]
 exact this
theorem bounds_u32{n:Int}(h:(Lit.int .u32 n).wf=true):0≤n∧n≤4294967295:=by
 simp[Lit.wf,IntKind.min,IntKind.max,IntKind.signed,IntKind.bits] at h;omega
theorem bounds_u16{n:Int}(h:(Lit.int .u16 n).wf=true):0≤n∧n≤65535:=by
 simp[Lit.wf,IntKind.min,IntKind.max,IntKind.signed,IntKind.bits] at h;omega
theorem bounds_u8{n:Int}(h:(Lit.int .u8 n).wf=true):0≤n∧n≤255:=by
 simp[Lit.wf,IntKind.min,IntKind.max,IntKind.signed,IntKind.bits] at h;omega
theorem Ro:od Tryz.prog W H enc R 74 Tm.ok Tm.cells:=by
 intro fuel cs x h hb
 obtain⟨xs,n,_,lJ,hl,kt,aI⟩:=DataW.trod_struct Tryz.underlying74 h
 have Rp:cs.length=6:=hl.trans (by kernel_rfl)
 have DB:xs.length=6:=kt
 have c2:Tryz.prog.cellsOf 57=1:=by kernel_rfl
 have c1:Tryz.prog.cellsOf 5=1:=by kernel_rfl
 obtain⟨u0,u1,u2,u3,u4,u5,rfl⟩:∃u0 u1 u2 u3 u4 u5,cs=[u0,u1,u2,u3,u4,u5]:=by
  match cs,Rp with
  | [a,b,c,d,e,f],_=>exact⟨a,b,c,d,e,f,rfl⟩
 obtain⟨x0,x1,x2,x3,x4,x5,rfl⟩:∃u0 u1 u2 u3 u4 u5,xs=[u0,u1,u2,u3,u4,u5]:=by
  match xs,DB with
  | [a,b,c,d,e,f],_=>exact⟨a,b,c,d,e,f,rfl⟩
 have g0:=aI 0 _ rfl
 have g1:=aI 1 _ rfl
 have g2:=aI 2 _ rfl
 have g3:=aI 3 _ rfl
 have g4:=aI 4 _ rfl
 have g5:=aI 5 _ rfl
 simp only[c1,c2,List.drop_zero,List.drop_succ_cons,List.take_succ_cons,List.take_zero,List.getElem?_cons_zero,List.getElem?_cons_succ] at g0 g1 g2 g3 g4 g5
 obtain⟨k0,w0,r0⟩:=mr Tryz.underlying57 n _ _ g0
 obtain⟨k1,w1,r1⟩:=mr Tryz.underlying5 n _ _ g1
 obtain⟨k2,w2,r2⟩:=mr Tryz.underlying5 n _ _ g2
 obtain⟨k3,w3,r3⟩:=mr Tryz.underlying5 n _ _ g3
 obtain⟨k4,w4,r4⟩:=mr Tryz.underlying5 n _ _ g4
 obtain⟨k5,w5,r5⟩:=mr Tryz.underlying5 n _ _ g5
 refine⟨⟨k0,k1,k2,k3,k4,k5⟩,⟨bounds_u16 w0,bounds_u8 w1,bounds_u8 w2,bounds_u8 w3,bounds_u8 w4,bounds_u8 w5⟩,?_⟩
 exact ia r0 (ia r1 (ia r2 (ia r3 (ia r4 r5))))
theorem Rq(x:AV)(v:aU):aV x v=[.val (.string v.nm)]++(bC 16 v.g++([.val (.int .u32 v.at_)]++(v.t.cells++(bC 32 v.ow++[x])))):=rfl
theorem Rs{α:Type}(cs:List α)(h:cs.length=57):cs=(cs.drop 0).take 1++((cs.drop 1).take 16++((cs.drop 17).take 1++((cs.drop 18).take 6++((cs.drop 24).take 32++(cs.drop 56).take 1)))):=by
 have e:∀a b:Nat,(cs.drop a).take b++cs.drop (a+b)=cs.drop a:=fun a b=>by
  have:=List.take_append_drop b (cs.drop a)
  rw[List.drop_drop] at this
  exact this
 have e6:(cs.drop 56).take 1=cs.drop 56:=List.take_of_length_le (by rw[List.length_drop];omega)
 rw[e6,e 24 32,e 18 6,e 17 1,e 1 16,e 0 1]
 rfl
theorem Rt:od Tryz.prog W H enc reachBytes 77 aU.Ok (fun v=>aV (.bs 0 v.d) v):=by
 intro fuel cs x h hb
 obtain⟨xs,n,_,lJ,hl,kt,aI⟩:=DataW.trod_struct Tryz.underlying77 h
 have Ru:cs.length=57:=hl.trans (by kernel_rfl)
 have DB:xs.length=6:=kt
 have c1:Tryz.prog.cellsOf 9=1:=by kernel_rfl
 have c2:Tryz.prog.cellsOf 71=16:=by kernel_rfl
 have c3:Tryz.prog.cellsOf 72=1:=by kernel_rfl
 have c4:Tryz.prog.cellsOf 74=6:=by kernel_rfl
 have c5:Tryz.prog.cellsOf 75=32:=by kernel_rfl
 have c6:Tryz.prog.cellsOf 23=1:=by kernel_rfl
 obtain⟨x0,x1,x2,x3,x4,x5,rfl⟩:∃u0 u1 u2 u3 u4 u5,xs=[u0,u1,u2,u3,u4,u5]:=by
  match xs,DB with
  | [a,b,c,d,e,f],_=>exact⟨a,b,c,d,e,f,rfl⟩
 have g0:=aI 0 _ rfl
 have g1:=aI 1 _ rfl
 have g2:=aI 2 _ rfl
 have g3:=aI 3 _ rfl
 have g4:=aI 4 _ rfl
 have g5:=aI 5 _ rfl
 simp only[c1,c2,c3,c4,c5,c6,List.getElem?_cons_zero,List.getElem?_cons_succ] at g0 g1 g2 g3 g4 g5
 subst lJ
 simp only[DataW.weights,Tryz.underlying77,List.map_cons,List.map_nil,DataW.weightsEach,List.mem_append] at hb
 obtain⟨k0,w0,r0⟩:=Rm Tryz.underlying9 n _ _ g0 (fun m hm=>hb m (by simp[hm]))
 obtain⟨k1,w1,r1⟩:=Jp Tryz.underlying71 Tryz.underlying5 (by kernel_rfl) (by kernel_rfl) n _ _ g1 (fun m hm=>hb m (by simp[hm]))
 obtain⟨k2,w2,r2⟩:=mr Tryz.underlying72 n _ _ g2
 obtain⟨k3,w3,r3⟩:=Ro n _ _ g3 (fun m hm=>hb m (by simp[hm]))
 obtain⟨k4,w4,r4⟩:=Jp Tryz.underlying75 Tryz.underlying5 (by kernel_rfl) (by kernel_rfl) n _ _ g4 (fun m hm=>hb m (by simp[hm]))
 obtain⟨k5,w5,r5⟩:=MG Tryz.underlying23 Tryz.underlying5 (by kernel_rfl) (by kernel_rfl) n _ _ g5 (fun m hm=>hb m (by simp[hm]))
 refine⟨⟨k0,k1,k2,k3,k4,k5⟩,⟨Nat.le_trans w0 (by decide),w1,bounds_u32 w2,w3,w4,Nat.le_trans w5 (by decide)⟩,?_⟩
 show aq (jy W) W (aV (.bs 0 k5) ⟨k0,k1,k2,k3,k4,k5⟩) cs
 rw[Rq,Rs cs Ru]
 exact ia r0 (ia r1 (ia r2 (ia r3 (ia r4 r5))))
end
end Go.Proofs.YtpbpiehcchannaaGreatDoor
