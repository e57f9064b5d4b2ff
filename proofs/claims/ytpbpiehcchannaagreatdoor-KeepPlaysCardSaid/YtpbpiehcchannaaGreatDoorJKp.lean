/- The table that is laid. The arguments of the laws of a book. Conditions: the premises of each law. -/
import Derived.Test.YtpbpiehcchannaaGreatDoorJAw
import Derived.Test.YtpbpiehcchannaaGreatDoorJAd
import Derived.Test.YtpbpiehcchannaaGreatDoorRows
import Derived.Lib.LaidTab
import Derived.LaidMore
import Derived.Test.YtpbpiehcchannaaGreatDoorJKj
namespace Go.Proofs.YtpbpiehcchannaaGreatDoor
open Go.RowKit Go.ChangeShapes Go.WideShapes Go.ChangeAt
set_option linter.unusedVariables false
set_option linter.unusedSimpArgs false
set_option maxRecDepth 100000
set_option maxHeartbeats 1500000
def crcZ:List Int:=[0,498536548,997073096,651767980,1994146192,1802195444,1303535960,1342533948,3988292384,4027552580,3604390888,3412177804,2607071920,2262029012,2685067896,3183342108]
def laidL:List (String×DataW Unit):=[("lintel/crc.table",Rows.laid_lintel_crc_table)]
theorem gCrc:Tryz.prog.globalNamed "lintel/crc.table" =some 1:=by kernel_rfl
theorem tCrc:(Tryz.prog.globals[1]?).map (·.type)=some 262:=by kernel_rfl
theorem crcGl:laidG 1=some (crcZ.map fun z=>Value.int .u32 z):=rfl
theorem gl_of_laid{W:World}(h:laidMetH Tryz.prog laidL W):Gl (env0 W) W:=by
 rw[MakeChecks.laidMetH_plain _ _ _ (by kernel_rfl)] at h
 have hT:Lib.TabIs Tryz.prog W "lintel/crc.table" .u32 crcZ:=Lib.tabIs_of_head gCrc tCrc Tryz.underlying262 Tryz.underlying72 (by kernel_rfl) (by kernel_rfl) (show laidMet Tryz.prog (("lintel/crc.table",Lib.tabData .u32 crcZ)::[]) W from h)
 intro g cs hg
 have h1:g=1:=by
  unfold laidG at hg
  split at hg
  ·rfl
  ·cases hg
 subst h1
 obtain rfl:=Option.some.inj (crcGl.symm.trans hg)
 have hcell:∀(j:Nat)(u:Value),(crcZ.map fun z=>Value.int .u32 z)[j]? =some u→W.cell? ⟨1,j,none⟩=some u:=fun j u hu=>by
  rw[List.getElem?_map] at hu
  obtain⟨z,hz,rfl⟩:=Option.map_eq_some_iff.1 hu
  obtain⟨hj,hz'⟩:=List.getElem?_eq_some_iff.1 hz
  rw[hT.cell gCrc j hj,List.getD_eq_getElem?_getD,hz];rfl
 refine⟨⟨rfl,?_⟩,hcell⟩
 have h0:=hcell 0 _ rfl
 unfold World.cell? at h0
 simp only at h0
 cases hb:W.heap[1]? with
 | none=>simp[hb] at h0
 | some _=>exact(Array.getElem?_eq_some_iff.1 hb).1
end Go.Proofs.YtpbpiehcchannaaGreatDoor
namespace Go.Proofs.YtpbpiehcchannaaGreatDoor
open Go.RowKit Go.ChangeShapes Go.WideShapes Go.ChangeAt
set_option linter.unusedVariables false
set_option linter.unusedSimpArgs false
set_option maxRecDepth 100000
set_option maxHeartbeats 1500000
section
variable {W:World} {H:Type} {enc:TypeId×Value→H} {R:Nat}
theorem ocr_string{T:TypeId}(hT:Tryz.prog.underlying T=some .string):OCR Tryz.prog W H enc R T (fun s:ByteArray=>s.size≤R) (fun s=>[.val (.string s)]):=by
 intro fuel cs x h hb
 obtain⟨s,e0,e1,_⟩:=DataW.trod_string hT h
 refine⟨s,?_,?_⟩
 ·subst e1
  have:=hb s.data.toList.length (by simp[DataW.weights])
  simpa using this
 ·rw[e0]
  simp only[reps,rep]
  exact⟨_,_,rfl,rfl,rfl⟩
theorem ocr_arr{T E n:Nat}(hT:Tryz.prog.underlying T=some (.array n E))(hE:Tryz.prog.underlying E=some (.int .u8))(hct:Tryz.prog.cellsOf T=n)(hcE:Tryz.prog.cellsOf E=1):OCR Tryz.prog W H enc R T (fun g:List UInt8=>g.length=n) (fun g=>bytesA n g):=by
 intro fuel cs x h _
 obtain⟨xs,m,rfl,hx,hl,hxl,hget⟩:=DataW.trod_array hT h
 have hcl:cs.length=n:=by rw[hl,hct]
 obtain⟨g,hg⟩:=bvs_of_all cs (fun i hi=>by
  have hi':i<n:=by omega
  have h1:=hget i hi'
  rw[hcE,Nat.mul_one] at h1
  have hxi:xs[i]? =some xs[i]:=List.getElem?_eq_getElem (by omega)
  rw[hxi] at h1
  have e:(cs.drop i).take 1=[cs[i]]:=by
   rw[List.drop_eq_getElem_cons hi];rfl
  rw[e] at h1
  obtain⟨a,e0,_,wa⟩:=DataW.trod_int hE h1
  simp only[List.cons.injEq,and_true] at e0
  obtain⟨b,hb⟩:=bv_of_wf wa
  exact⟨b,by rw[List.getElem?_eq_getElem hi,e0,hb]⟩)
 have hgl:g.length=n:=by rw[←hcl,hg];simp
 refine⟨g,hgl,?_⟩
 have:=reps_bytesA (env0 W) W g n
 rw[range_getD g n hgl] at this
 rw[hg]
 exact this
theorem bounds_u32{n:Int}(h:(Lit.int .u32 n).wf=true):0≤n∧n≤4294967295:=by
 simp[Lit.wf,IntKind.min,IntKind.max,IntKind.signed,IntKind.bits] at h;omega
theorem bounds_u16{n:Int}(h:(Lit.int .u16 n).wf=true):0≤n∧n≤65535:=by
 simp[Lit.wf,IntKind.min,IntKind.max,IntKind.signed,IntKind.bits] at h;omega
theorem bounds_u8{n:Int}(h:(Lit.int .u8 n).wf=true):0≤n∧n≤255:=by
 simp[Lit.wf,IntKind.min,IntKind.max,IntKind.signed,IntKind.bits] at h;omega
theorem ocr_time:OCR Tryz.prog W H enc R 74 Tm.ok Tm.cells:=by
 intro fuel cs x h hb
 obtain⟨xs,n,_,hxe,hl,hxl,hget⟩:=DataW.trod_struct Tryz.underlying74 h
 have hl6:cs.length=6:=hl.trans (by kernel_rfl)
 have hxl6:xs.length=6:=hxl
 have c2:Tryz.prog.cellsOf 57=1:=by kernel_rfl
 have c1:Tryz.prog.cellsOf 5=1:=by kernel_rfl
 obtain⟨u0,u1,u2,u3,u4,u5,rfl⟩:∃u0 u1 u2 u3 u4 u5,cs=[u0,u1,u2,u3,u4,u5]:=by
  match cs,hl6 with
  | [a,b,c,d,e,f],_=>exact⟨a,b,c,d,e,f,rfl⟩
 obtain⟨x0,x1,x2,x3,x4,x5,rfl⟩:∃u0 u1 u2 u3 u4 u5,xs=[u0,u1,u2,u3,u4,u5]:=by
  match xs,hxl6 with
  | [a,b,c,d,e,f],_=>exact⟨a,b,c,d,e,f,rfl⟩
 have g0:=hget 0 _ rfl
 have g1:=hget 1 _ rfl
 have g2:=hget 2 _ rfl
 have g3:=hget 3 _ rfl
 have g4:=hget 4 _ rfl
 have g5:=hget 5 _ rfl
 simp only[c1,c2,List.drop_zero,List.drop_succ_cons,List.take_succ_cons,List.take_zero,List.getElem?_cons_zero,List.getElem?_cons_succ] at g0 g1 g2 g3 g4 g5
 obtain⟨k0,w0,r0⟩:=oc_int Tryz.underlying57 n _ _ g0
 obtain⟨k1,w1,r1⟩:=oc_int Tryz.underlying5 n _ _ g1
 obtain⟨k2,w2,r2⟩:=oc_int Tryz.underlying5 n _ _ g2
 obtain⟨k3,w3,r3⟩:=oc_int Tryz.underlying5 n _ _ g3
 obtain⟨k4,w4,r4⟩:=oc_int Tryz.underlying5 n _ _ g4
 obtain⟨k5,w5,r5⟩:=oc_int Tryz.underlying5 n _ _ g5
 refine⟨⟨k0,k1,k2,k3,k4,k5⟩,⟨bounds_u16 w0,bounds_u8 w1,bounds_u8 w2,bounds_u8 w3,bounds_u8 w4,bounds_u8 w5⟩,?_⟩
 exact reps_append r0 (reps_append r1 (reps_append r2 (reps_append r3 (reps_append r4 r5))))
theorem varA_app(x:AV)(v:VarV):varA x v=[.val (.string v.nm)]++(bytesA 16 v.g++([.val (.int .u32 v.at_)]++(v.t.cells++(bytesA 32 v.ow++[x])))):=rfl
theorem cut6{α:Type}(cs:List α)(h:cs.length=57):cs=(cs.drop 0).take 1++((cs.drop 1).take 16++((cs.drop 17).take 1++((cs.drop 18).take 6++((cs.drop 24).take 32++(cs.drop 56).take 1)))):=by
 have e:∀a b:Nat,(cs.drop a).take b++cs.drop (a+b)=cs.drop a:=fun a b=>by
  have:=List.take_append_drop b (cs.drop a)
  rw[List.drop_drop] at this
  exact this
 have e6:(cs.drop 56).take 1=cs.drop 56:=List.take_of_length_le (by rw[List.length_drop];omega)
 rw[e6,e 24 32,e 18 6,e 17 1,e 1 16,e 0 1]
 rfl
theorem ocr_var:OCR Tryz.prog W H enc reachBytes 77 VarV.Ok (fun v=>varA (.bs 0 v.d) v):=by
 intro fuel cs x h hb
 obtain⟨xs,n,_,hxe,hl,hxl,hget⟩:=DataW.trod_struct Tryz.underlying77 h
 have hl57:cs.length=57:=hl.trans (by kernel_rfl)
 have hxl6:xs.length=6:=hxl
 have c1:Tryz.prog.cellsOf 9=1:=by kernel_rfl
 have c2:Tryz.prog.cellsOf 71=16:=by kernel_rfl
 have c3:Tryz.prog.cellsOf 72=1:=by kernel_rfl
 have c4:Tryz.prog.cellsOf 74=6:=by kernel_rfl
 have c5:Tryz.prog.cellsOf 75=32:=by kernel_rfl
 have c6:Tryz.prog.cellsOf 23=1:=by kernel_rfl
 obtain⟨x0,x1,x2,x3,x4,x5,rfl⟩:∃u0 u1 u2 u3 u4 u5,xs=[u0,u1,u2,u3,u4,u5]:=by
  match xs,hxl6 with
  | [a,b,c,d,e,f],_=>exact⟨a,b,c,d,e,f,rfl⟩
 have g0:=hget 0 _ rfl
 have g1:=hget 1 _ rfl
 have g2:=hget 2 _ rfl
 have g3:=hget 3 _ rfl
 have g4:=hget 4 _ rfl
 have g5:=hget 5 _ rfl
 simp only[c1,c2,c3,c4,c5,c6,List.getElem?_cons_zero,List.getElem?_cons_succ] at g0 g1 g2 g3 g4 g5
 subst hxe
 simp only[DataW.weights,Tryz.underlying77,List.map_cons,List.map_nil,DataW.weightsEach,List.mem_append] at hb
 obtain⟨k0,w0,r0⟩:=ocr_string Tryz.underlying9 n _ _ g0 (fun m hm=>hb m (by simp[hm]))
 obtain⟨k1,w1,r1⟩:=ocr_arr Tryz.underlying71 Tryz.underlying5 (by kernel_rfl) (by kernel_rfl) n _ _ g1 (fun m hm=>hb m (by simp[hm]))
 obtain⟨k2,w2,r2⟩:=oc_int Tryz.underlying72 n _ _ g2
 obtain⟨k3,w3,r3⟩:=ocr_time n _ _ g3 (fun m hm=>hb m (by simp[hm]))
 obtain⟨k4,w4,r4⟩:=ocr_arr Tryz.underlying75 Tryz.underlying5 (by kernel_rfl) (by kernel_rfl) n _ _ g4 (fun m hm=>hb m (by simp[hm]))
 obtain⟨k5,w5,r5⟩:=ocr_bytes Tryz.underlying23 Tryz.underlying5 (by kernel_rfl) (by kernel_rfl) n _ _ g5 (fun m hm=>hb m (by simp[hm]))
 refine⟨⟨k0,k1,k2,k3,k4,k5⟩,⟨Nat.le_trans w0 (by decide),w1,bounds_u32 w2,w3,w4,Nat.le_trans w5 (by decide)⟩,?_⟩
 show reps (env0 W) W (varA (.bs 0 k5) ⟨k0,k1,k2,k3,k4,k5⟩) cs
 rw[varA_app,cut6 cs hl57]
 exact reps_append r0 (reps_append r1 (reps_append r2 (reps_append r3 (reps_append r4 r5))))
end
end Go.Proofs.YtpbpiehcchannaaGreatDoor
