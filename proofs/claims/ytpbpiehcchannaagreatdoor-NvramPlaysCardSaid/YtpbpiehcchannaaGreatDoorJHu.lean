/- Walks of lintelref08: Need, Laid, one. Walks of lintelref08: scan, Scan, Kill, Add, At. Walks of lintelref08: Scan, Kill, Add, At. Conditions: the premises of each law. -/
import Derived.Test.YtpbpiehcchannaaGreatDoorJHt
import Derived.Test.YtpbpiehcchannaaGreatDoorJHn
import Derived.Test.YtpbpiehcchannaaGreatDoorJHa
namespace Go.Proofs.YtpbpiehcchannaaGreatDoor
open Go.RowKit
set_option linter.unusedVariables false
set_option linter.unusedSimpArgs false
set_option maxRecDepth 100000
set_option maxHeartbeats 1500000
theorem ru(k v:Int)(hk:0≤k∧k≤4611686018427387903)(hv:0≤v∧v≤4611686018427387000):Spec Tryz.prog 76 [.val (.int .i64 k),.val (.int .i64 v)] [] (bY (.val (.int .i64 (12+k+v))) []):=by
 refine aq aj Tryz.func76 rfl Tryz.ntmps76 Tryz.results76 ?_
 refine gg (k:= ?_)
 exact⟨_,rfl,rfl⟩
theorem FH:∀(a b:List UInt8)(x:Int),fo (a++b) x=fo b (fo a x)
 | [],_,_=>rfl
 | c::a,b,x=>by rw[List.cons_append,fo,fo,FH a b]
theorem FI(a b:List UInt8)(x:Int):eN x (a++b)=eN (eN x a) b:=by
 unfold eN
 rw[FH,Int.sub_sub_self]
theorem Nc(k v:List UInt8):eN 0 (gA k v++k++v)=iD k v:=by
 unfold iD
 rw[FI,FI]
theorem FJ(st:Int)(dL:0≤st∧st≤255)(k v:List UInt8)(hk:k.length≤100000000)(hv:v.length≤100000000)(z z':Nat):Spec Tryz.prog 176 [.val (.int .u8 st),.bs z k,.bs z' v] [] (ak (.own 34 4 1 0 (bA k v).length.succ) [] [(34,⟨4,.bytes (UInt8.ofNat st.toNat::bA k v)⟩)]):=by
 have hc:=DT k v
 have Qm:=s4 k v
 have Qn:=zg k v
 have vH:=pw k v
 refine aq aj Tryz.func176 rfl Tryz.ntmps176 Tryz.results176 ?_
 refine gg (k:= ?_)
 refine ae (FE [165] 1 rfl (by decide) 1 ((k.length:Int)%18446744073709551616) (by omega) 2 (by decide) ([165]++cd 2 k.length) (by rw[show(k.length:Int)%18446744073709551616=k.length by omega])) Tryz.call185 1 [10] [0] [] ?_
 refine gg (k:= ?_)
 refine ae (Ah ([165]++cd 2 k.length) (by simp[gO]) 0 ((v.length:Int)%18446744073709551616) (by omega) 4 (by decide) (gA k v) (by rw[show(v.length:Int)%18446744073709551616=v.length by omega];rfl)) Tryz.call185 0 [] [] [] ?_
 refine gg (k:= ?_)
 conv=>whnf
 refine⟨gA k v,?_⟩
 conv=>whnf
 refine And.intro ⟨rfl,trivial,rfl,rfl,rfl,rfl,rfl,rfl,(by show(0+(gA k v).length)*1≤_;omega),by decide⟩ ?_
 refine gg (k:= ?_)
 conv=>whnf
 refine⟨k,?_⟩
 conv=>whnf
 refine And.intro ⟨rfl,trivial,rfl,rfl,rfl,by simp,rfl,rfl,(by show((([]:List UInt8)++gA k v).length+k.length)*1≤_;simp only[List.nil_append];omega),by decide⟩ ?_
 refine gg (k:= ?_)
 conv=>whnf
 refine⟨v,?_⟩
 conv=>whnf
 refine And.intro ⟨rfl,trivial,rfl,rfl,rfl,by simp,rfl,rfl,(by show((([]:List UInt8)++gA k v++k).length+v.length)*1≤_;simp only[List.nil_append,List.length_append];omega),by decide⟩ ?_
 refine gg (k:= ?_)
 refine ae (M8 (gA k v++k++v) ((([]:List UInt8)++gA k v++k).length+v.length) (by simp only[List.nil_append,List.length_append]) (by simp only[List.length_append];omega) 4) Tryz.call209 1 [20] [0] [] ?_
 rw[Nc]
 refine gg (k:= ?_)
 refine ae (Ah (gA k v) (by omega) 0 (iD k v%18446744073709551616) (by omega) 4 (by decide) (kE k v) (by rw[show iD k v%18446744073709551616=iD k v by omega];rfl)) Tryz.call185 0 [] [] [] ?_
 refine gg (k:= ?_)
 conv=>whnf
 refine⟨kE k v,?_⟩
 conv=>whnf
 refine And.intro ⟨rfl,trivial,rfl,rfl,rfl,by simp only[List.length_append,List.length_map,List.length_singleton],rfl,rfl,(by show(1+(kE k v).length)*1≤_;omega),by decide⟩ ?_
 refine gg (k:= ?_)
 conv=>whnf
 refine⟨k,?_⟩
 conv=>whnf
 refine And.intro ⟨rfl,trivial,rfl,rfl,rfl,by simp only[List.length_append,List.length_map,List.length_singleton],rfl,rfl,(by simp only[List.length_append,List.length_map,List.length_singleton];show(1+(kE k v).length+k.length)*1≤_;omega),by decide⟩ ?_
 refine gg (k:= ?_)
 conv=>whnf
 refine⟨v,?_⟩
 conv=>whnf
 refine And.intro ⟨rfl,trivial,rfl,rfl,rfl,by simp only[List.length_append,List.length_map,List.length_singleton],rfl,rfl,(by simp only[List.length_append,List.length_map,List.length_singleton];show(1+(kE k v).length+k.length+v.length)*1≤_;omega),by decide⟩ ?_
 refine gg (k:= ?_)
 have e:UInt8.ofNat st.toNat::bA k v=(List.map (fun n:Int=>UInt8.ofNat n.toNat) [st]++kE k v++k)++v:=by simp[bA]
 rw[e]
 refine⟨_,?_,rfl,rfl,trivial⟩
 show AV.own 34 4 1 0 _=AV.own 34 4 1 0 _
 congr 1
 simp only[List.length_append,List.length_map,List.length_singleton]
 omega
theorem Nd (st : Int) (dL : 0 ≤ st ∧ st ≤ 255) (k v : List UInt8) (kn vn : Nat) (cu : kn = k.length) (j8 : vn = v.length) (hk : k.length ≤ 100000000) (hv : v.length ≤ 100000000) (v0 v1 : Nat) : Spec Tryz.prog 176 [.val (.int .u8 st), .own 0 v0 1 0 kn, .own 1 v1 1 0 vn] [⟨v0, .bytes k⟩, ⟨v1, .bytes v⟩]
    (ak (.bs 0 (UInt8.ofNat st.toNat::bA k v)) [⟨v0,.bytes k⟩,⟨v1,.bytes v⟩] []):=by
 subst cu j8
 have h:=jY (FJ st dL ((k.drop 0).take k.length) ((v.drop 0).take v.length) (by rw[whole];exact hk) (by rw[whole];exact hv) 0 0) trivial ⟨trivial,trivial⟩ (rows:=[⟨v0,.bytes k⟩,⟨v1,.bytes v⟩]) (args:=[.val (.int .u8 st),.own 0 v0 1 0 k.length,.own 1 v1 1 0 v.length])
  (du lR (du (kC (l:=k) rfl (by omega)) (du (kC (l:=v) rfl (by omega)) fT)))
 rw[whole,whole] at h
 exact br h (by simp[ef,oS,kz]) (AF.own rfl rfl) ⟨rfl,BF.same,rfl,BF.same,trivial⟩
theorem Nf(st:Int)(dL:0≤st∧st≤255)(k v:List UInt8)(hk:k.length≤100000000)(hv:v.length≤100000000)(z z':Nat):Spec Tryz.prog 176 [.val (.int .u8 st),.bs z k,.bs z' v] [] (ak (.bs 0 (UInt8.ofNat st.toNat::bA k v)) [] []):=
 br (FJ st dL k v hk hv z z') (by simp[ef]) (AF.own rfl rfl) trivial
def Ng(x:List UInt8)(X:AV)(H:List U):Prop:=(¬dU x→ak (.al [nW,.val (.int .i64 0)]) [] [] X H)∧(dU x→ak (.al [.agg [.own 59 2 1 0 (bR x).length,.own 69 2 1 0 (b5 x).length,.val (.bool (jc x))],.val (.int .i64 (bU x))]) [] [(59,⟨2,.bytes (bR x)⟩),(69,⟨2,.bytes (b5 x)⟩)] X H)
theorem FK(z:Nat)(x:List UInt8)(hx:x.length≤4194304)(a:Nat)(ha:a≤x.length)(y:List UInt8)(hy:y=x.drop a):Spec Tryz.prog 210 [.bs z x,.val (.int .i64 (a:Int))] [] (Ng y):=by
 have hk:=DW y
 have hv:=DX y
 have hN:bU y=12+au y+cA y:=rfl
 have Qo:y.length=x.length - a:=by rw[hy,List.length_drop]
 have nG:x.getD a 0=y.getD 0 0:=by rw[hy,List.getD_eq_getElem?_getD,List.getD_eq_getElem?_getD,List.getElem?_drop,Nat.add_zero]
 refine aq aj Tryz.func210 rfl Tryz.ntmps210 Tryz.results210 ?_
 refine gg (k:= ?_)
 rw[Int.toNat_natCast,nG]
 refine⟨fun h=> ?_,fun h=> ?_⟩
 ·refine gg (k:= ?_)
  refine⟨fun _=>⟨_,rfl,rfl,trivial⟩,fun hr=> ?_⟩
  exfalso
  rw[Bool.or_eq_true] at h
  rcases h with h | h
  ·have:=of_decide_eq_true h;have:=hr.1;omega
  ·rw[Bool.and_eq_true,Bool.not_eq_true',Bool.not_eq_true',decide_eq_false_iff_not,decide_eq_false_iff_not] at h
   rcases hr.2.1 with q | q
   ·exact h.1 (by show((y.getD 0 0).toNat:Int)=252;rw[q];rfl)
   ·exact h.2 (by show((y.getD 0 0).toNat:Int)=248;rw[q];rfl)
 have iO:12≤y.length:=by
  simp only[Bool.or_eq_false_iff,decide_eq_false_iff_not] at h;omega
 have dL:y.getD 0 0=252∨y.getD 0 0=248:=by
  rw[Bool.or_eq_false_iff] at h
  have h2:=h.2
  simp only[Bool.and_eq_false_iff,Bool.not_eq_false',decide_eq_true_eq] at h2
  exact h2.imp (fun q=>UInt8.toNat_inj.1 (by exact_mod_cast q)) (fun q=>UInt8.toNat_inj.1 (by exact_mod_cast q))
 have gE:=Ai x (by omega) (a+2) 2 (.inl rfl) (by omega) z
 have FL:=Ai x (by omega) (a+4) 4 (.inr rfl) (by omega) z
 rw[show((a+2:Nat):Int)=(a:Int)+2 by omega,show cm ((x.drop (a+2)).take 2)=au y by rw[hy];unfold au;rw[List.drop_drop]] at gE
 rw[show((a+4:Nat):Int)=(a:Int)+4 by omega,show cm ((x.drop (a+4)).take 4)=cA y by rw[hy];unfold cA;rw[List.drop_drop]] at FL
 refine gg (k:= ?_)
 refine ae (gE) Tryz.call207 0 [] [] [] ?_
 refine gg (k:= ?_)
 refine ae (FL) Tryz.call207 0 [] [] [] ?_
 refine gg (k:= ?_)
 by_cases hb:au y<1∨255<au y∨65536<cA y
 ·have e1:(decide ((au y:Int)<1)||decide (255< (au y:Int))||decide (65536< (cA y:Int)))=true:=by
    simp only[Bool.or_eq_true,decide_eq_true_eq];omega
  rw[e1]
  (refine ax (k:= ?_))
  refine⟨fun hG=>absurd hG (by decide),fun _=> ?_⟩
  refine gg (k:= ?_)
  exact⟨fun _=>⟨_,rfl,rfl,trivial⟩,fun hr=>absurd hr (by unfold dU;omega)⟩
 have e1:(decide ((au y:Int)<1)||decide (255< (au y:Int))||decide (65536< (cA y:Int)))=false:=by
  simp only[Bool.or_eq_false_iff,decide_eq_false_iff_not];omega
 rw[e1]
 refine bD (k:= ?_)
 refine aP (ru (au y) (cA y) (by omega) (by omega)) Tryz.call76 [] ?_
 refine gg (k:= ?_)
 refine⟨fun h=> ?_,fun h=> ?_⟩
 ·refine gg (k:= ?_)
  have h2:y.length<12+au y+cA y:=by
   rw[Bool.false_or] at h
   have:=of_decide_eq_true h;omega
  exact⟨fun _=>⟨_,rfl,rfl,trivial⟩,fun hr=>absurd hr (by unfold dU;omega)⟩
 have h2:12+au y+cA y≤y.length:=by
  rw[Bool.false_or] at h
  have:=of_decide_eq_false h;omega
 refine gg (k:= ?_)
 (refine ax (k:= ?_))
 refine bz (p:=0) aj hm [0,0,0,4,0,16,0,112,254,511,0,0,0,4096,0,28672,0,65536,0,458752,0,2031616,4192256,8388607,0,0,50331648,117440512,251658240,536870911,0,2147483647] [⟨0,false,false,[59]⟩,⟨1,false,false,[]⟩,⟨2,false,false,[]⟩,⟨3,false,false,[]⟩,⟨4,false,false,[]⟩,⟨5,false,false,[]⟩,⟨6,false,false,[]⟩,⟨7,false,false,[]⟩,⟨8,false,false,[]⟩,⟨9,true,true,[69,70,71,72,73,74,75,76,77,78,79,80,81,82,83,84,85,86,87,88,9]⟩,⟨10,false,false,[69]⟩,⟨11,false,false,[]⟩,⟨12,false,false,[]⟩,⟨13,false,false,[]⟩,⟨14,false,false,[]⟩,⟨15,false,false,[]⟩,⟨16,false,false,[]⟩,⟨17,false,false,[]⟩,⟨18,false,false,[]⟩,⟨19,false,false,[]⟩,⟨20,false,false,[]⟩,⟨21,false,false,[]⟩,⟨22,false,false,[]⟩,⟨23,true,true,[83,84,85,86,87,88,9]⟩,⟨24,false,false,[]⟩,⟨25,false,false,[]⟩,⟨26,false,false,[]⟩,⟨27,false,false,[]⟩,⟨28,false,false,[]⟩,⟨29,true,false,[9]⟩,⟨30,false,false,[9]⟩,⟨31,true,true,[]⟩] (by kernel_rfl) ?_
 refine gg (k:= ?_)
 have kF:List.drop ((a:Int)+12).toNat (List.take ((a:Int)+12+(au y:Int)).toNat x)=bR y:=by
  unfold bR
  rw[hy,List.drop_take,List.drop_take,List.drop_drop,←hy,show((a:Int)+12).toNat=a+12 by omega,show((a:Int)+12+(au y:Int)).toNat - (a+12)=au y by omega,show 12+au y - 12=au y by omega]
 have jb:List.drop ((a:Int)+12+(au y:Int)).toNat (List.take ((a:Int)+12+(au y:Int)+(cA y:Int)).toNat x)=b5 y:=by
  unfold b5
  rw[hN,hy,List.drop_take,List.drop_take,List.drop_drop,←hy,show((a:Int)+12+(au y:Int)).toNat=a+(12+au y) by omega,show((a:Int)+12+(au y:Int)+(cA y:Int)).toNat - (a+(12+au y))=cA y by omega,show 12+au y+cA y - (12+au y)=cA y by omega]
 have cE:(bR y).length=au y:=by unfold bR;rw[List.length_drop,List.length_take];omega
 have dp:(b5 y).length=cA y:=by unfold b5;rw[hN,List.length_drop,List.length_take];omega
 conv=>whnf
 refine⟨bR y,?_⟩
 conv=>whnf
 refine And.intro ⟨rfl,trivial,rfl,rfl,rfl,rfl,rfl,by rw[kF],(by show(0+(bR y).length)*1≤_;omega),by decide⟩ ?_
 refine And.intro ⟨.inr (fun h=>nomatch h),trivial⟩ ?_
 refine gg (k:= ?_)
 conv=>whnf
 refine⟨b5 y,?_⟩
 conv=>whnf
 refine And.intro ⟨rfl,trivial,rfl,rfl,rfl,rfl,rfl,by rw[jb],(by show(0+(b5 y).length)*1≤_;omega),by decide⟩ ?_
 refine And.intro ⟨.inr (fun h=>nomatch h),trivial⟩ ?_
 refine gg (k:= ?_)
 (refine ax (k:= ?_))
 refine bz (p:=0) aj hm [0,0,3,7,0,16,0,64,255,511,0,0,0,0,0,25087,61951,130559,261631,524287] [⟨0,false,false,[]⟩,⟨1,false,false,[]⟩,⟨2,true,false,[92,93,94,95,96,97,98,99,100,101,102,103,104,105,106,107,108]⟩,⟨3,true,false,[93,94,95,96,97,98,99,100,101,102,103,104,105,106,107,108]⟩,⟨4,true,false,[89,90,91,92,94,95,96,97,98,99,100,101,102,103,104,105,106,107,108]⟩,⟨5,true,false,[89,90,91,92,95,96,97,98,99,100,101,102,103,104,105,106,107,108]⟩,⟨6,true,false,[89,90,91,92,93,94,96,97,98,99,100,101,102,103,104,105,106,107,108]⟩,⟨7,true,false,[89,90,91,92,93,94,97,98,99,100,101,102,103,104,105,106,107,108]⟩,⟨10,false,false,[]⟩,⟨11,false,false,[]⟩,⟨12,false,false,[]⟩,⟨13,false,false,[]⟩,⟨14,false,false,[]⟩,⟨8,true,false,[98,99,100,101,102,103,104,105,106,107,108]⟩,⟨9,true,false,[99,100,101,102,103,104,105,106,107,108]⟩,⟨15,true,false,[98,99,100,101,105,106,107,108]⟩,⟨16,false,false,[]⟩,⟨17,true,false,[98,107,108]⟩,⟨18,true,false,[98,108]⟩,⟨19,false,false,[]⟩] (by kernel_rfl) ?_
 refine gg (k:= ?_)
 have Qp:=(y.getD 0 0).toNat_lt
 rw[Int.toNat_natCast,nG]
 refine ae (Nd ((y.getD 0 0).toNat:Int) (by omega) (bR y) (b5 y) (0+(bR y).length) (0+(b5 y).length) (by omega) (by omega) (by omega) (by omega) 2 2) Tryz.call176 2 [59,69] [0,0] [] ?_
 refine gg (k:= ?_)
 refine aP (ru (au y) (cA y) (by omega) (by omega)) Tryz.call76 [] ?_
 refine gg (k:= ?_)
 have jd:List.drop (a:Int).toNat (List.take ((a:Int)+((12:Int)+(au y:Int)+(cA y:Int))).toNat x)=y.take (bU y):=by
  rw[hN,hy,Int.toNat_natCast,List.drop_take,show((a:Int)+((12:Int)+(au (x.drop a):Int)+(cA (x.drop a):Int))).toNat - a=12+au (x.drop a)+cA (x.drop a) by omega]
 rw[jd,vo,Int.toNat_natCast,UInt8.ofNat_toNat]
 have o4:y.take (bU y)=y.getD 0 0::(y.take (bU y)).drop 1:=by
  have aF:y.take (bU y)≠[]:=fun q=>by have:=congrArg List.length q;rw[List.length_take,List.length_nil] at this;omega
  cases hq:y.take (bU y) with
  | nil=>exact absurd hq aF
  | cons b t=>
   have:y.getD 0 0=b:=by
    have h1:=congrArg (fun l=>l.getD 0 0) hq
    simp only[List.getD_eq_getElem?_getD,List.getElem?_take,List.getElem?_cons_zero,Option.getD_some] at h1⊢
    rw[if_pos (by omega)] at h1
    exact h1
   rw[this];rfl
 refine⟨fun h=> ?_,fun h=> ?_⟩
 ·refine gg (k:= ?_)
  have aF:¬(y.take (bU y)).drop 1=bA (bR y) (b5 y):=fun q=>by
   rw[o4,q] at h
   simp at h
  exact⟨fun _=>⟨_,rfl,rfl,trivial⟩,fun hr=>absurd hr.2.2.2.2.2.2 aF⟩
 ·have he:(y.take (bU y)).drop 1=bA (bR y) (b5 y):=by
    rw[o4] at h
    have h2:=(List.cons.inj (show y.getD 0 0::bA (bR y) (b5 y)=y.getD 0 0::(y.take (bU y)).drop 1 by simpa using h)).2
    exact h2.symm
  have hr:dU y:=⟨iO,dL,by omega,by omega,by omega,by omega,he⟩
  refine gg (k:= ?_)
  (refine ax (k:= ?_))
  refine bz (p:=0) aj hm [0,0,0,6,15,31] [⟨0,true,false,[111,112,113,5]⟩,⟨1,false,false,[]⟩,⟨2,false,false,[]⟩,⟨3,true,false,[110,5]⟩,⟨4,true,true,[5]⟩,⟨5,false,false,[]⟩] (by kernel_rfl) ?_
  refine gg (k:= ?_)
  refine aP (ru (au y) (cA y) (by omega) (by omega)) Tryz.call76 [] ?_
  refine gg (k:= ?_)
  refine⟨fun q=>absurd hr q,fun _=>⟨_,?_,rfl,rfl,rfl,trivial⟩⟩
  refine Eq.trans (b:= .al [.agg [.own 59 2 1 0 (0+(bR y).length),.own 69 2 1 0 (0+(b5 y).length),.val (.bool (decide (((y.getD 0 0).toNat:Int)=252)))],.val (.int .i64 ((12:Int)+au y+cA y))]) rfl ?_
  unfold jc
  rw[Nat.zero_add,Nat.zero_add,hN]
  rfl
theorem Nh(z:Nat)(x:List UInt8)(hx:x.length≤4194304)(a:Nat)(ha:a≤x.length)(h:¬dU (x.drop a)):Spec Tryz.prog 210 [.bs z x,.val (.int .i64 (a:Int))] [] (ak (.al [nW,.val (.int .i64 0)]) [] []):=
 jZ (FK z x hx a ha _ rfl) fun _ _ q=>q.1 h
theorem Ni(z:Nat)(x:List UInt8)(hx:x.length≤4194304)(a:Nat)(ha:a≤x.length)(h:dU (x.drop a)):Spec Tryz.prog 210 [.bs z x,.val (.int .i64 (a:Int))] [] (ak (.al [.agg [.bs 0 (bR (x.drop a)),.bs 0 (b5 (x.drop a)),.val (.bool (jc (x.drop a)))],.val (.int .i64 (bU (x.drop a)))]) [] []):=
 br (jZ (FK z x hx a ha _ rfl) fun _ _ q=>q.2 h) (by simp[ef]) (AF.al (af.cons (AF.agg (af.cons (AF.own rfl rfl) (af.cons (AF.own rfl rfl) (af.cons AF.same af.nil)))) (af.cons AF.same af.nil))) trivial
end Go.Proofs.YtpbpiehcchannaaGreatDoor
namespace Go.Proofs.YtpbpiehcchannaaGreatDoor
open Go.RowKit
set_option linter.unusedVariables false
set_option linter.unusedSimpArgs false
set_option maxRecDepth 100000
set_option maxHeartbeats 1500000
theorem Am {W : Int} {n k X : Nat} (s : J) (a c : Nat) (g : av W n k s) (p : aC n k a c) (hd : s.dd = true) (vb v0 v1 : Nat) : Spec Tryz.prog 175 [.ref 0 vb 3 0 0] [⟨vb, .obj [.ref 1 v0 7 0 0, .val (.int .i64 (a : Int)), .val (.int .i64 (c : Int))]⟩, ⟨v0, .obj [.own 2 v1 1 0 s.l.length, .val (.int .i64 (X : Int)), .val (.int .i64 (s.k : Int)), .val (.int .i64 s.ar), .val (.int .i64 s.pt), .val (.bool s.dd), .val (.int .i64 s.wr)]⟩, ⟨v1, .bytes s.l⟩]
   (ak (.al [.sl 0 3 (eY 0) bl [],.sl 0 1 (cK .i64) 0 [],.val (.int .i64 0),.val (.bool false),.val (.int .i64 6)]) [⟨vb,.obj [.ref 1 v0 7 0 0,.val (.int .i64 (a:Int)),.val (.int .i64 (c:Int))]⟩,⟨v0,.obj [.own 2 v1 1 0 s.l.length,.val (.int .i64 (X:Int)),.val (.int .i64 (s.k:Int)),.val (.int .i64 s.ar),.val (.int .i64 s.pt),.val (.bool s.dd),.val (.int .i64 s.wr)]⟩,⟨v1,.bytes s.l⟩] []):=by
 have h:=g.eZ p
 have hi:=h.int
 have hl:=h.len
 have eA:=g.len
 have Ak:=g.l
 have hr:s.read ((a:Int)*s.k+0) ((c:Int)*s.k)=(6,[]):=by unfold J.read;rw[hd];rfl
 have h : Spec Tryz.prog 175 [.ref 0 vb 3 0 0] [⟨vb, .obj [.ref 1 v0 7 0 0, .val (.int .i64 (a : Int)), .val (.int .i64 (c : Int))]⟩, ⟨v0, .obj [.own 2 v1 1 0 s.l.length, .val (.int .i64 (X : Int)), .val (.int .i64 (s.k : Int)), .val (.int .i64 s.ar), .val (.int .i64 s.pt), .val (.bool s.dd), .val (.int .i64 s.wr)]⟩, ⟨v1, .bytes s.l⟩]
    (ak (.al [.val (.slice none 0 0),.val (.slice none 0 0),.val (.int .i64 0),.val (.bool false),.val (.int .i64 6)]) [⟨vb,.obj [.ref 1 v0 7 0 0,.val (.int .i64 (a:Int)),.val (.int .i64 (c:Int))]⟩,⟨v0,.obj [.own 2 v1 1 0 s.l.length,.val (.int .i64 (X:Int)),.val (.int .i64 (s.k:Int)),.val (.int .i64 s.ar),.val (.int .i64 s.pt),.val (.bool s.dd),.val (.int .i64 s.wr)]⟩,⟨v1,.bytes s.l⟩] []):=by
  refine aq aj Tryz.func175 rfl Tryz.ntmps175 Tryz.results175 ?_
  refine gg (k:= ?_)
  (refine ax (k:= ?_))
  refine bz (p:=3) aj hm [0,1,3,7,0,16,0,112,255,511,1023,1023,2047,8191] [⟨0,false,false,[]⟩,⟨1,true,false,[17,18,19,20,21,22,23,14,24,25,7,8]⟩,⟨2,true,false,[18,19,20,21,22,23,14,24,25,7,8]⟩,⟨3,true,false,[19,20,21,22,23,14,24,25,7,8]⟩,⟨4,false,false,[]⟩,⟨6,false,false,[]⟩,⟨5,true,false,[15,16,17,18,21,22,23,14,24,25,7,8]⟩,⟨7,true,false,[15,16,17,18,23,14,24,25,7,8]⟩,⟨8,true,true,[14,24,25,7,8]⟩,⟨9,false,false,[]⟩,⟨10,false,false,[]⟩,⟨11,false,false,[]⟩,⟨12,false,false,[]⟩,⟨13,false,false,[]⟩] (by kernel_rfl) ?_
  refine gg (k:= ?_)
  refine aP (mZ s a c h 0 (by unfold aG;omega) vb v0 v1) Tryz.call173 [0,1,2] ?_
  refine gg (k:= ?_)
  refine aP (vW s a c h vb v0 v1) Tryz.call140 [0,1,2] ?_
  refine gg (k:= ?_)
  refine ae (Ac s (by omega) X ((a:Int)*s.k+0) ((c:Int)*s.k) (by unfold aG;omega) (by unfold aG;omega) v0 v1) Tryz.call206 2 [1,2] [0,0] [] ?_
  rw[hr]
  refine gg (k:= ?_)
  exact⟨_,rfl,rfl,trivial⟩
 exact br h trivial (AF.al (af.cons AF.cF (af.cons AF.cF (af.cons AF.same (af.cons AF.same (af.cons AF.same af.nil)))))) ⟨rfl,BF.same,rfl,BF.same,rfl,BF.same,trivial⟩
theorem An {W : Int} {n k X : Nat} (s : J) (a c : Nat) (g : av W n k s) (p : aC n k a c) (hd : s.dd = false) (vb v0 v1 : Nat) : Spec Tryz.prog 175 [.ref 0 vb 3 0 0] [⟨vb, .obj [.ref 1 v0 7 0 0, .val (.int .i64 (a : Int)), .val (.int .i64 (c : Int))]⟩, ⟨v0, .obj [.own 2 v1 1 0 s.l.length, .val (.int .i64 (X : Int)), .val (.int .i64 (s.k : Int)), .val (.int .i64 s.ar), .val (.int .i64 s.pt), .val (.bool s.dd), .val (.int .i64 s.wr)]⟩, ⟨v1, .bytes s.l⟩]
   (ak (.al [.sl 0 3 (eY 0) bl ((s.scan a c).1.map an),.sl 0 1 (cK .i64) 0 ((s.scan a c).1.map fun c=>(c.at_:Int)),.val (.int .i64 ((s.scan a c).2.1:Int)),.val (.bool (s.scan a c).2.2),.val (.int .i64 0)]) [⟨vb,.obj [.ref 1 v0 7 0 0,.val (.int .i64 (a:Int)),.val (.int .i64 (c:Int))]⟩,⟨v0,.obj [.own 2 v1 1 0 s.l.length,.val (.int .i64 (X:Int)),.val (.int .i64 (s.k:Int)),.val (.int .i64 s.ar),.val (.int .i64 s.pt),.val (.bool s.dd),.val (.int .i64 s.wr)]⟩,⟨v1,.bytes s.l⟩] []):=by
 have h:=g.eZ p
 have hi:=h.int
 have hl:=h.len
 have hb:=p.fa
 have eA:=g.len
 have Ak:=g.l
 obtain⟨x,hx⟩:∃x,x=s.bE a c:=⟨_,rfl⟩
 have hr:s.read ((a:Int)*s.k+0) ((c:Int)*s.k)=(0,x):=by
  rw[Int.add_zero]
  rcases qU g p (c*k) (Nat.le_refl _) with⟨q,_⟩ | ⟨_,q,_⟩
  ·rw[hd] at q;cases q
  ·rw[hx];unfold J.bE;rw[g.k,←q,g.k];push_cast;rfl
 have ny:x.length=c*k:=by
  rcases qU g p (c*k) (Nat.le_refl _) with⟨q,_⟩ | ⟨_,_,q⟩
  ·rw[hd] at q;cases q
  ·rw[hx];unfold J.bE;rw[g.k];exact q
 have fy:=p.fit
 have FM:x.length≤4194304:=by omega
 have eC:s.scan a c=bj x 16:=by rw[hx];rfl
 rw[eC]
 clear eC hx
 have h : Spec Tryz.prog 175 [.ref 0 vb 3 0 0] [⟨vb, .obj [.ref 1 v0 7 0 0, .val (.int .i64 (a : Int)), .val (.int .i64 (c : Int))]⟩, ⟨v0, .obj [.own 2 v1 1 0 s.l.length, .val (.int .i64 (X : Int)), .val (.int .i64 (s.k : Int)), .val (.int .i64 s.ar), .val (.int .i64 s.pt), .val (.bool s.dd), .val (.int .i64 s.wr)]⟩, ⟨v1, .bytes s.l⟩]
    (ak (.al [.own 57 ((bj x 16).1.length+1) 3 0 (bj x 16).1.length,.own 61 ((bj x 16).1.length+1) 1 0 (bj x 16).1.length,.val (.int .i64 ((bj x 16).2.1:Int)),.val (.bool (bj x 16).2.2),.val (.int .i64 0)]) [⟨vb,.obj [.ref 1 v0 7 0 0,.val (.int .i64 (a:Int)),.val (.int .i64 (c:Int))]⟩,⟨v0,.obj [.own 2 v1 1 0 s.l.length,.val (.int .i64 (X:Int)),.val (.int .i64 (s.k:Int)),.val (.int .i64 s.ar),.val (.int .i64 s.pt),.val (.bool s.dd),.val (.int .i64 s.wr)]⟩,⟨v1,.bytes s.l⟩]
     [(57,⟨(bj x 16).1.length+1,.row 3 (eY 0) bl ((bj x 16).1.map an)⟩),(61,⟨(bj x 16).1.length+1,.row 1 (cK .i64) 0 ((bj x 16).1.map fun c=>(c.at_:Int))⟩)]):=by
  refine aq aj Tryz.func175 rfl Tryz.ntmps175 Tryz.results175 ?_
  refine gg (k:= ?_)
  (refine ax (k:= ?_))
  refine bz (p:=3) aj hm [0,1,3,7,0,16,0,112,255,511,1023,1023,2047,8191] [⟨0,false,false,[]⟩,⟨1,true,false,[17,18,19,20,21,22,23,14,24,25,7,8]⟩,⟨2,true,false,[18,19,20,21,22,23,14,24,25,7,8]⟩,⟨3,true,false,[19,20,21,22,23,14,24,25,7,8]⟩,⟨4,false,false,[]⟩,⟨6,false,false,[]⟩,⟨5,true,false,[15,16,17,18,21,22,23,14,24,25,7,8]⟩,⟨7,true,false,[15,16,17,18,23,14,24,25,7,8]⟩,⟨8,true,true,[14,24,25,7,8]⟩,⟨9,false,false,[]⟩,⟨10,false,false,[]⟩,⟨11,false,false,[]⟩,⟨12,false,false,[]⟩,⟨13,false,false,[]⟩] (by kernel_rfl) ?_
  refine gg (k:= ?_)
  refine aP (mZ s a c h 0 (by unfold aG;omega) vb v0 v1) Tryz.call173 [0,1,2] ?_
  refine gg (k:= ?_)
  refine aP (vW s a c h vb v0 v1) Tryz.call140 [0,1,2] ?_
  refine gg (k:= ?_)
  refine ae (Ac s (by omega) X ((a:Int)*s.k+0) ((c:Int)*s.k) (by unfold aG;omega) (by unfold aG;omega) v0 v1) Tryz.call206 2 [1,2] [0,0] [] ?_
  rw[hr]
  refine gg (k:= ?_)
  (refine ax (k:= ?_))
  conv=>whnf
  refine lW (oQ (ia 57 1 (.row 3 (eY 0) bl []) rfl (by decide) rfl (ta 3 (k:=9) rfl)) (ia 61 1 (.row 1 (cK .i64) 0 []) rfl (by decide) rfl (ta 1 (k:=10) rfl))) ?_
  dsimp only[aH]
  refine bh (fun y:Nat×List Rc=>16≤y.1∧y.1≤x.length∧12*y.2.length≤y.1∧bj x 16=(y.2++(bj x y.1).1,(bj x y.1).2)) (fun y=>x.length - y.1) 3 [2,3,4,5,6,9,10,11,12,13,29,30,31,32,33,34,35,36,37,38,39,40,41,42,43,44,45,46,47,48,49,50,51,52,53,54,55,56,57,58,59,60,61]
   (fun y=>[(9,.own 57 (y.2.length+1) 3 0 y.2.length),(10,.own 61 (y.2.length+1) 1 0 y.2.length),(11,.val (.int .i64 (y.1:Int)))])
   (fun y=>[(57,⟨y.2.length+1,.row 3 (eY 0) bl (y.2.map an)⟩),(61,⟨y.2.length+1,.row 1 (cK .i64) 0 (y.2.map fun c=>(c.at_:Int))⟩)])
   (16,[]) ⟨Nat.le_refl _,by show 16≤x.length;omega,by show 12*0≤16;omega,by simp⟩ ?_ ?_ ?_
  ·exact no_implicit_lambda%ten
  ·exact no_implicit_lambda%az
  ·rintro⟨at_,rs⟩ v ⟨h1,h2,h3,h4⟩
   simp only at h1 h2 h3 h4
   refine bc (k:= ?_)
   refine gg (k:= ?_)
   rw[Int.toNat_natCast]
   refine⟨fun h=> ?_,fun h=> ?_⟩
   ·have ai:at_<x.length∧x.getD at_ 0≠255:=by
      rw[Bool.and_eq_true,Bool.not_eq_true',decide_eq_false_iff_not] at h
      refine⟨by have:=of_decide_eq_true h.1;omega,fun q=>h.2 ?_⟩
      rw[q];rfl
    have hN:=pn (x.drop at_)
    refine gg (k:= ?_)
    by_cases j9:dU (x.drop at_)
    ·have lZ:bU (x.drop at_)≤x.length - at_:=by have:=j9.2.2.2.2.2.1;rw[List.length_drop] at this;exact this
     refine ae (Ni 0 x FM at_ h2 j9) Tryz.call210 0 [] [] [] ?_
     refine gg (k:= ?_)
     obtain⟨R,hR⟩:∃R:List Rc,R=rs++[⟨bR (x.drop at_),b5 (x.drop at_),jc (x.drop at_),at_⟩]:=⟨_,rfl⟩
     have l5:R.length=rs.length+1:=by rw[hR];simp
     have Nj:R.map an=rs.map an++[⟨bR (x.drop at_),b5 (x.drop at_),jc (x.drop at_)⟩]:=by rw[hR];simp[an]
     have zy:(R.map fun c=>(c.at_:Int))=(rs.map fun c=>(c.at_:Int))++[(at_:Int)]:=by rw[hR];simp
     conv=>whnf
     refine⟨RK,eY 0,bl,R.map an,?_⟩
     conv=>whnf
     refine And.intro ?_ ?_
     ·refine⟨rfl,⟨rfl,rfl,Nat.le_refl _,fun q hq=>(by(have ig:q=0:=by simpa using hq);subst ig;exact⟨trivial,trivial,rfl,trivial⟩)⟩,rfl,rfl,rfl,by simp,.inr rfl,?_,?_,by decide⟩
      ·rw[Nj,List.map_append];rfl
      ·rw[List.length_map,l5]
       show(rs.length+1)*56≤_
       omega
     refine gg (k:= ?_)
     conv=>whnf
     refine⟨Int,cK .i64,0,R.map fun c=>(c.at_:Int),?_⟩
     conv=>whnf
     refine And.intro ?_ ?_
     ·refine⟨rfl,⟨rfl,rfl,Nat.le_refl _,fun q _=>⟨rfl,trivial⟩⟩,rfl,rfl,rfl,by simp,.inr rfl,?_,?_,by decide⟩
      ·rw[zy,List.map_append];rfl
      ·rw[List.length_map,l5]
       show(rs.length+1)*8≤_
       omega
     refine gg (k:= ?_)
     refine(show qm 1 (qD _ _ _ _ _ _ _ _ _) .normal _ from ?_)
     refine EB ?_
     refine aM (at_+bU (x.drop at_),R) ⟨by show 16≤at_+_;omega,by show at_+_≤_;omega,by show 12*R.length≤at_+_;rw[l5];omega,?_⟩ (by show x.length - (at_+bU (x.drop at_))<x.length - at_;omega) ?_ ?_
     ·show bj x 16=(R++(bj x (at_+bU (x.drop at_))).1,(bj x (at_+bU (x.drop at_))).2)
      rw[h4,pj ai j9,hR]
      simp
     ·dsimp only[dt,hY,hZ,aH]
      rw[List.length_map,List.length_map,l5]
      exact no_implicit_lambda%ten
     ·dsimp only[dt,jA,jB,aH,Nat.reduceAdd,Nat.zero_add]
      rw[l5]
      exact no_implicit_lambda%az
    ·refine ae (Nh 0 x FM at_ h2 j9) Tryz.call210 0 [] [] [] ?_
     unfold nW
     refine gg (k:= ?_)
     have hG:bj x 16=(rs,at_,false):=by rw[h4,po ai j9];simp
     rw[hG]
     exact⟨_,rfl,rfl,rfl,rfl,trivial⟩
   ·have iA:¬(at_<x.length∧x.getD at_ 0≠255):=by
      rintro⟨q1,q2⟩
      rw[decide_eq_true (by omega:(at_:Int)< (x.length:Int)),Bool.true_and,Bool.not_eq_false',decide_eq_true_eq] at h
      exact q2 (UInt8.toNat_inj.1 (by exact_mod_cast h))
    refine gg (k:= ?_)
    have hG:bj x 16=(rs,at_,true):=by rw[h4,nT iA];simp
    rw[hG]
    exact⟨_,rfl,rfl,rfl,rfl,trivial⟩
 exact br h (by simp[ef]) (AF.al (af.cons (AF.s9 rfl (by rw[List.length_map]) (by rw[List.length_map]) fun i x y h1 h2=>by rw[h1] at h2;obtain rfl:=Option.some.inj h2;exact af.cons AF.same (af.cons AF.same (af.cons AF.same af.nil))) (af.cons (AF.s9 rfl (by rw[List.length_map]) (by rw[List.length_map]) fun i x y h1 h2=>by rw[h1] at h2;obtain rfl:=Option.some.inj h2;exact af.cons AF.same af.nil) (af.cons AF.same (af.cons AF.same (af.cons AF.same af.nil)))))) ⟨rfl,BF.same,rfl,BF.same,rfl,BF.same,trivial⟩
end Go.Proofs.YtpbpiehcchannaaGreatDoor
namespace Go.Proofs.YtpbpiehcchannaaGreatDoor
open Go.RowKit
set_option linter.unusedVariables false
set_option linter.unusedSimpArgs false
set_option maxRecDepth 100000
set_option maxHeartbeats 1500000
theorem vY {W : Int} {n k X : Nat} (s : J) (a c : Nat) (g : av W n k s) (p : aC n k a c) (hd : s.dd = true) (vb v0 v1 : Nat) : Spec Tryz.prog 132 [.ref 0 vb 3 0 0] [⟨vb, .obj [.ref 1 v0 7 0 0, .val (.int .i64 (a : Int)), .val (.int .i64 (c : Int))]⟩, ⟨v0, .obj [.own 2 v1 1 0 s.l.length, .val (.int .i64 (X : Int)), .val (.int .i64 (s.k : Int)), .val (.int .i64 s.ar), .val (.int .i64 s.pt), .val (.bool s.dd), .val (.int .i64 s.wr)]⟩, ⟨v1, .bytes s.l⟩]
   (ak (.al [.sl 0 3 (eY 0) bl [],.val (.int .i64 0),.val (.bool false),.val (.int .i64 6)]) [⟨vb,.obj [.ref 1 v0 7 0 0,.val (.int .i64 (a:Int)),.val (.int .i64 (c:Int))]⟩,⟨v0,.obj [.own 2 v1 1 0 s.l.length,.val (.int .i64 (X:Int)),.val (.int .i64 (s.k:Int)),.val (.int .i64 s.ar),.val (.int .i64 s.pt),.val (.bool s.dd),.val (.int .i64 s.wr)]⟩,⟨v1,.bytes s.l⟩] []):=by
 refine aq aj Tryz.func132 rfl Tryz.ntmps132 Tryz.results132 ?_
 refine gg (k:= ?_)
 refine ae (Am s a c g p hd vb v0 v1) Tryz.call175 (hX:=⟨fun _=>⟨trivial,trivial,trivial,trivial⟩,fun _=>⟨trivial,trivial⟩,trivial,trivial,trivial,trivial⟩) 3 [0,1,2] [0,0,0] [] ?_
 refine gg (k:= ?_)
 exact⟨_,rfl,rfl,trivial⟩
theorem kH {W : Int} {n k X : Nat} (s : J) (a c : Nat) (g : av W n k s) (p : aC n k a c) (hd : s.dd = false) (vb v0 v1 : Nat) : Spec Tryz.prog 132 [.ref 0 vb 3 0 0] [⟨vb, .obj [.ref 1 v0 7 0 0, .val (.int .i64 (a : Int)), .val (.int .i64 (c : Int))]⟩, ⟨v0, .obj [.own 2 v1 1 0 s.l.length, .val (.int .i64 (X : Int)), .val (.int .i64 (s.k : Int)), .val (.int .i64 s.ar), .val (.int .i64 s.pt), .val (.bool s.dd), .val (.int .i64 s.wr)]⟩, ⟨v1, .bytes s.l⟩]
   (ak (.al [.sl 0 3 (eY 0) bl ((s.scan a c).1.map an),.val (.int .i64 ((s.scan a c).2.1:Int)),.val (.bool (s.scan a c).2.2),.val (.int .i64 0)]) [⟨vb,.obj [.ref 1 v0 7 0 0,.val (.int .i64 (a:Int)),.val (.int .i64 (c:Int))]⟩,⟨v0,.obj [.own 2 v1 1 0 s.l.length,.val (.int .i64 (X:Int)),.val (.int .i64 (s.k:Int)),.val (.int .i64 s.ar),.val (.int .i64 s.pt),.val (.bool s.dd),.val (.int .i64 s.wr)]⟩,⟨v1,.bytes s.l⟩] []):=by
 refine aq aj Tryz.func132 rfl Tryz.ntmps132 Tryz.results132 ?_
 refine gg (k:= ?_)
 refine ae (An s a c g p hd vb v0 v1) Tryz.call175 (hX:=⟨fun _=>⟨trivial,trivial,trivial,trivial⟩,fun _=>⟨trivial,trivial⟩,trivial,trivial,trivial,trivial⟩) 3 [0,1,2] [0,0,0] [] ?_
 refine gg (k:= ?_)
 exact⟨_,rfl,rfl,trivial⟩
theorem kI {W : Int} {n k X : Nat} (s : J) (a c : Nat) (g : av W n k s) (hW : W ≤ 9000000000000000) (p : aC n k a c) (i : Int) (hi : aG i) (vb v0 v1 : Nat) : Spec Tryz.prog 134 [.ref 0 vb 3 0 0, .val (.int .i64 i)] [⟨vb, .obj [.ref 1 v0 7 0 0, .val (.int .i64 (a : Int)), .val (.int .i64 (c : Int))]⟩, ⟨v0, .obj [.own 2 v1 1 0 s.l.length, .val (.int .i64 (X : Int)), .val (.int .i64 (s.k : Int)), .val (.int .i64 s.ar), .val (.int .i64 s.pt), .val (.bool s.dd), .val (.int .i64 s.wr)]⟩, ⟨v1, .bytes s.l⟩]
   (ak (.val (.int .i64 (s.kill a c i).1)) [⟨vb,.obj [.ref 1 v0 7 0 0,.val (.int .i64 (a:Int)),.val (.int .i64 (c:Int))]⟩,⟨v0,.obj [.own 2 v1 1 0 (s.kill a c i).2.l.length,.val (.int .i64 (X:Int)),.val (.int .i64 ((s.kill a c i).2.k:Int)),.val (.int .i64 (s.kill a c i).2.ar),.val (.int .i64 (s.kill a c i).2.pt),.val (.bool (s.kill a c i).2.dd),.val (.int .i64 (s.kill a c i).2.wr)]⟩,⟨v1,.bytes (s.kill a c i).2.l⟩] []):=by
 have hx:s.bE a c=(s.l.drop (a*k)).take (c*k):=by unfold J.bE;rw[g.k]
 have hb:=g.eZ p
 have s8:=hb.int
 have ij:=hb.len
 have hw:=g.wr
 have fA:=g.len
 have eA:=g.l
 refine aq aj Tryz.func134 rfl Tryz.ntmps134 Tryz.results134 ?_
 refine gg (k:= ?_)
 by_cases hd:s.dd=true
 ·refine ae (Am s a c g p hd vb v0 v1) Tryz.call175 (hX:=⟨fun _=>⟨trivial,trivial,trivial,trivial⟩,fun _=>⟨trivial,trivial⟩,trivial,trivial,trivial,trivial⟩) 3 [0,1,2] [0,0,0] [] ?_
  refine gg (k:= ?_)
  have hf:s.kill a c i=(6,s):=by unfold J.kill;rw[hd];rfl
  rw[hf]
  exact⟨_,rfl,rfl,trivial⟩
 have hd:s.dd=false:=by simpa using hd
 refine ae (An s a c g p hd vb v0 v1) Tryz.call175 (hX:=⟨fun _=>⟨trivial,trivial,trivial,trivial⟩,fun _=>⟨trivial,trivial⟩,trivial,trivial,trivial,trivial⟩) 3 [0,1,2] [0,0,0] [] ?_
 have cS:=(pA (s.bE a c) _ 16 rfl).1
 have eC:s.scan a c=bj (s.bE a c) 16:=rfl
 have KX:(s.bE a c).length≤s.l.length:=by unfold J.bE;rw[List.length_take,List.length_drop];omega
 rw[←eC] at cS
 have cE:s.kill a c i=if i<0∨((s.scan a c).1.length:Int)≤i then(1,s) else s.prog ((a:Int)*s.k+(((s.scan a c).1.map fun r=>(r.at_:Int)).getD i.toNat 0)) [248]:=by unfold J.kill;rw[hd];rfl
 rw[cE]
 clear eC cE
 generalize s.scan a c=S at cS⊢
 obtain⟨be,e,wh⟩:=S
 simp only at cS⊢
 obtain⟨P,hP⟩:∃P:List Int,P=be.map fun r=>(r.at_:Int):=⟨_,rfl⟩
 have Nk:P.length=be.length:=by rw[hP,List.length_map]
 have Nl:∀j,0≤P.getD j 0∧P.getD j 0≤s.l.length:=by
  intro j
  rw[hP,List.getD_eq_getElem?_getD,List.getElem?_map]
  cases hj:be[j]? with
  | none=>simp
  | some r=>
   have:=cS r (List.mem_of_getElem? hj)
   simp only[Option.map_some,Option.getD_some]
   omega
 rw[←hP,←Nk]
 clear hP cS
 refine gg (k:= ?_)
 refine⟨fun h=> ?_,fun h=> ?_⟩
 ·have hc:i<0∨(P.length:Int)≤i:=by
    rw[Bool.or_eq_true,decide_eq_true_eq,decide_eq_true_eq] at h;exact h
  refine gg (k:= ?_)
  rw[if_pos hc]
  exact⟨_,rfl,rfl,trivial⟩
 ·have hc:¬(i<0∨(P.length:Int)≤i):=by
    rw[Bool.or_eq_false_iff,decide_eq_false_iff_not,decide_eq_false_iff_not] at h;exact fun q=>q.elim h.1 h.2
  have eG:0≤i∧i< (P.length:Int):=by omega
  have Qq:=Nl i.toNat
  refine gg (k:= ?_)
  (refine ax (k:= ?_))
  refine bz (p:=3) aj hm [0,1,3,7,0,0,0,96,224,496,0,2047,4095] [⟨0,false,false,[]⟩,⟨1,true,false,[33,34,35,36,37,38,39,40,41,42,4]⟩,⟨2,true,false,[34,35,36,37,38,39,40,41,42,4]⟩,⟨3,true,false,[35,36,37,38,39,40,41,42,4]⟩,⟨4,false,false,[]⟩,⟨5,false,false,[]⟩,⟨6,false,false,[]⟩,⟨7,true,false,[31,32,33,34,35,39,40,41,42,4]⟩,⟨8,true,false,[31,32,33,34,35,40,41,42,4]⟩,⟨10,true,false,[31,32,33,34,35,36,37,38,39,40,42,4]⟩,⟨9,true,false,[31,32,33,34,41,42,4]⟩,⟨11,true,true,[4]⟩,⟨12,false,false,[]⟩] (by kernel_rfl) ?_
  refine gg (k:= ?_)
  refine aP (mZ s a c hb (P.getD i.toNat 0) (by unfold aG;omega) vb v0 v1) Tryz.call173 [0,1,2] ?_
  refine gg (k:= ?_)
  refine ae (vX s g.ar (by omega) (by omega) [248] 1 rfl (by decide) ((a:Int)*s.k+P.getD i.toNat 0) (by unfold aG;omega) X v0 v1 1) Tryz.call172 3 [1,2,44] [0,0,0] [] ?_
  refine gg (k:= ?_)
  rw[if_neg hc]
  exact⟨_,rfl,rfl,trivial⟩
theorem oc {W : Int} {n k X : Nat} (s : J) (a c : Nat) (g : av W n k s) (hW : W ≤ 9000000000000000) (p : aC n k a c) (key val : List UInt8) (cE : key.length ≤ 140737488355328) (dp : val.length ≤ 140737488355328) (z z' : Nat) (vb v0 v1 : Nat) : Spec Tryz.prog 139 [.ref 0 vb 3 0 0, .bs z key, .bs z' val] [⟨vb, .obj [.ref 1 v0 7 0 0, .val (.int .i64 (a : Int)), .val (.int .i64 (c : Int))]⟩, ⟨v0, .obj [.own 2 v1 1 0 s.l.length, .val (.int .i64 (X : Int)), .val (.int .i64 (s.k : Int)), .val (.int .i64 s.ar), .val (.int .i64 s.pt), .val (.bool s.dd), .val (.int .i64 s.wr)]⟩, ⟨v1, .bytes s.l⟩]
   (ak (.val (.int .i64 (s.add a c key val).1)) [⟨vb,.obj [.ref 1 v0 7 0 0,.val (.int .i64 (a:Int)),.val (.int .i64 (c:Int))]⟩,⟨v0,.obj [.own 2 v1 1 0 (s.add a c key val).2.l.length,.val (.int .i64 (X:Int)),.val (.int .i64 ((s.add a c key val).2.k:Int)),.val (.int .i64 (s.add a c key val).2.ar),.val (.int .i64 (s.add a c key val).2.pt),.val (.bool (s.add a c key val).2.dd),.val (.int .i64 (s.add a c key val).2.wr)]⟩,⟨v1,.bytes (s.add a c key val).2.l⟩] []):=by
 have hx:s.bE a c=(s.l.drop (a*k)).take (c*k):=by unfold J.bE;rw[g.k]
 have hb:=g.eZ p
 have s8:=hb.int
 have ij:=hb.len
 have hw:=g.wr
 have fA:=g.len
 have eA:=g.l
 refine aq aj Tryz.func139 rfl Tryz.ntmps139 Tryz.results139 ?_
 refine gg (k:= ?_)
 refine⟨fun h=> ?_,fun h=> ?_⟩
 ·have hc:key.length<1∨255<key.length∨65536<val.length:=by
    simp only[Bool.or_eq_true,decide_eq_true_eq] at h;omega
  refine gg (k:= ?_)
  have hf:s.add a c key val=(1,s):=by unfold J.add;rw[if_pos hc]
  rw[hf]
  exact⟨_,rfl,rfl,trivial⟩
 have hc:¬(key.length<1∨255<key.length∨65536<val.length):=by
  simp only[Bool.or_eq_false_iff,decide_eq_false_iff_not] at h;omega
 refine gg (k:= ?_)
 by_cases hd:s.dd=true
 ·refine ae (Am s a c g p hd vb v0 v1) Tryz.call175 (hX:=⟨fun _=>⟨trivial,trivial,trivial,trivial⟩,fun _=>⟨trivial,trivial⟩,trivial,trivial,trivial,trivial⟩) 3 [0,1,2] [0,0,0] [] ?_
  refine gg (k:= ?_)
  have hf:s.add a c key val=(6,s):=by unfold J.add;rw[if_neg hc,if_pos hd]
  rw[hf]
  exact⟨_,rfl,rfl,trivial⟩
 have hd:s.dd=false:=by simpa using hd
 refine ae (An s a c g p hd vb v0 v1) Tryz.call175 (hX:=⟨fun _=>⟨trivial,trivial,trivial,trivial⟩,fun _=>⟨trivial,trivial⟩,trivial,trivial,trivial,trivial⟩) 3 [0,1,2] [0,0,0] [] ?_
 have eC:s.scan a c=bj (s.bE a c) 16:=rfl
 have gP:(s.bE a c).length=c*k:=by
  rw[hx,List.length_take,List.length_drop];have:=p.fit;omega
 have eO:=p.fa
 have iA:=(pA (s.bE a c) _ 16 rfl).2 (by omega)
 rw[←eC] at iA
 clear eC
 generalize Ao:s.scan a c=S at iA⊢
 obtain⟨be,e,wh⟩:=S
 simp only at iA⊢
 have hle:(e:Int)≤(c:Int)*s.k:=by
  rw[g.k]
  have he:e≤c*k:=by omega
  exact_mod_cast he
 have qR:key.length≤255∧1≤key.length∧val.length≤65536:=by omega
 refine gg (k:= ?_)
 refine⟨fun h=> ?_,fun h=> ?_⟩
 ·have ka:wh=false:=by simpa using h
  refine gg (k:= ?_)
  have hf:s.add a c key val=(12,s):=by unfold J.add;rw[if_neg hc,hd,Ao];simp[ka]
  rw[hf]
  exact⟨_,rfl,rfl,trivial⟩
 have ka:wh=true:=by simpa using h
 refine gg (k:= ?_)
 refine aP (ru key.length val.length (by omega) (by omega)) Tryz.call76 [] ?_
 refine gg (k:= ?_)
 refine aP (vW s a c hb vb v0 v1) Tryz.call140 [0,1,2] ?_
 refine gg (k:= ?_)
 refine⟨fun h=> ?_,fun h=> ?_⟩
 ·have jO:(c:Int)*s.k - (e:Int)<12+key.length+val.length:=of_decide_eq_true h
  refine gg (k:= ?_)
  have hf:s.add a c key val=(5,s):=by unfold J.add;rw[if_neg hc,hd,Ao];simp[ka,jO]
  rw[hf]
  exact⟨_,rfl,rfl,trivial⟩
 have kf:¬((c:Int)*s.k - (e:Int)<12+key.length+val.length):=of_decide_eq_false h
 have hf:s.add a c key val=s.iE ((a:Int)*s.k+(e:Int)) key val:=by unfold J.add;rw[if_neg hc,hd,Ao];simp[ka,kf]
 have g1:=g.prog ((a:Int)*s.k+(e:Int)) [254]
 have eo:=g1.eZ p
 have kv:(s.prog ((a:Int)*s.k+(e:Int)) [254]).2.k=s.k:=by rw[g1.k,g.k]
 have fD:([254]:List UInt8).length=1:=rfl
 have KY:=pw key val
 have g2:=g1.prog ((a:Int)*s.k+(e:Int)+1) (bA key val)
 have gY:=g1.wr
 have gp:=g2.wr
 have jF:=g2.eZ p
 have Qr:=g1.l
 have Ak:=g2.l
 have oW:(a:Int)*((s.prog ((a:Int)*s.k+(e:Int)) [254]).2.k:Int)+((e:Int)+1)=(a:Int)*s.k+(e:Int)+1:=by rw[kv,←Int.add_assoc]
 have sE:((s.prog ((a:Int)*s.k+(e:Int)) [254]).2.prog ((a:Int)*s.k+(e:Int)+1) (bA key val)).2.k=s.k:=by rw[g2.k,g.k]
 have mC:(a:Int)*(((s.prog ((a:Int)*s.k+(e:Int)) [254]).2.prog ((a:Int)*s.k+(e:Int)+1) (bA key val)).2.k:Int)+(e:Int)=(a:Int)*s.k+(e:Int):=by rw[sE]
 refine gg (k:= ?_)
 (refine ax (k:= ?_))
 refine bz (p:=3) aj hm [0,1,3,7,0,0,48,0,255,511] [⟨0,false,false,[]⟩,⟨1,true,false,[52,53,54,55,56,57,58,11]⟩,⟨2,true,false,[53,54,55,56,57,58,11]⟩,⟨3,true,false,[54,55,56,57,58,11]⟩,⟨4,false,false,[]⟩,⟨5,false,false,[]⟩,⟨7,true,false,[50,51,52,53,54,55,56,58,11]⟩,⟨6,true,false,[50,51,52,53,57,58,11]⟩,⟨8,true,true,[11]⟩,⟨9,false,false,[]⟩] (by kernel_rfl) ?_
 refine gg (k:= ?_)
 refine aP (mZ s a c hb (e:Int) (by unfold aG;omega) vb v0 v1) Tryz.call173 [0,1,2] ?_
 refine gg (k:= ?_)
 refine ae (vX s g.ar (by omega) (by omega) [254] 1 rfl (by decide) ((a:Int)*s.k+(e:Int)) (by unfold aG;omega) X v0 v1 1) Tryz.call172 3 [1,2,60] [0,0,0] [] ?_
 refine gg (k:= ?_)
 refine⟨fun h=> ?_,fun h=> ?_⟩
 ·have aF:(s.prog ((a:Int)*s.k+(e:Int)) [254]).1≠0:=by simpa using h
  refine gg (k:= ?_)
  rw[hf];unfold J.iE;rw[if_pos aF]
  exact⟨_,rfl,rfl,trivial⟩
 have iv:(s.prog ((a:Int)*s.k+(e:Int)) [254]).1=0:=by simpa using h
 refine gg (k:= ?_)
 (refine ax (k:= ?_))
 refine bz (p:=3) aj hm [0,1,3,7,0,0,32,112,0,0,1008,2032,4095,8191] [⟨0,false,false,[]⟩,⟨1,true,false,[64,65,66,67,68,69,70,71,72,73,74,11]⟩,⟨2,true,false,[65,66,67,68,69,70,71,72,73,74,11]⟩,⟨3,true,false,[66,67,68,69,70,71,72,73,74,11]⟩,⟨4,false,false,[]⟩,⟨5,false,false,[]⟩,⟨6,false,false,[]⟩,⟨8,false,false,[]⟩,⟨9,false,false,[]⟩,⟨7,true,false,[62,63,64,65,70,71,72,73,74,11]⟩,⟨10,true,false,[62,63,64,65,73,74,11]⟩,⟨11,true,false,[62,63,64,65,74,11]⟩,⟨12,true,true,[11]⟩,⟨13,false,false,[]⟩] (by kernel_rfl) ?_
 refine gg (k:= ?_)
 refine aP (mZ (s.prog ((a:Int)*s.k+(e:Int)) [254]).2 a c eo ((e:Int)+1) (by rw[oW];unfold aG;omega) vb v0 v1) Tryz.call173 [0,1,2] ?_
 rw[oW]
 refine gg (k:= ?_)
 refine ae (Nf 0 (by decide) key val (by omega) (by omega) z z') Tryz.call176 0 [] [] [] ?_
 refine gg (k:= ?_)
 rw[show List.drop (Int.toNat 1) (List.take (((bA key val).length+1:Nat):Int).toNat (UInt8.ofNat (Int.toNat 0)::bA key val))=bA key val by
  rw[Int.toNat_natCast,List.take_of_length_le (by rw[List.length_cons];exact Nat.le_refl _)];rfl]
 refine ae (Ab 0 (s.prog ((a:Int)*s.k+(e:Int)) [254]).2 g1.ar (by omega) (by omega) (bA key val) (by omega) ((a:Int)*s.k+(e:Int)+1) (by unfold aG;omega) X v0 v1) Tryz.call172 2 [1,2] [0,0] [] ?_
 refine gg (k:= ?_)
 refine⟨fun h=> ?_,fun h=> ?_⟩
 ·have aF:((s.prog ((a:Int)*s.k+(e:Int)) [254]).2.prog ((a:Int)*s.k+(e:Int)+1) (bA key val)).1≠0:=by simpa using h
  refine gg (k:= ?_)
  rw[hf];unfold J.iE;rw[if_neg (fun q=>q iv),if_pos aF]
  exact⟨_,rfl,rfl,trivial⟩
 have qt:((s.prog ((a:Int)*s.k+(e:Int)) [254]).2.prog ((a:Int)*s.k+(e:Int)+1) (bA key val)).1=0:=by simpa using h
 refine gg (k:= ?_)
 (refine ax (k:= ?_))
 refine bz (p:=3) aj hm [0,1,3,7,0,0,48,0,255,511] [⟨0,false,false,[]⟩,⟨1,true,false,[80,81,82,83,84,85,86,6]⟩,⟨2,true,false,[81,82,83,84,85,86,6]⟩,⟨3,true,false,[82,83,84,85,86,6]⟩,⟨4,false,false,[]⟩,⟨5,false,false,[]⟩,⟨7,true,false,[78,79,80,81,82,83,84,86,6]⟩,⟨6,true,false,[78,79,80,81,85,86,6]⟩,⟨8,true,true,[6]⟩,⟨9,false,false,[]⟩] (by kernel_rfl) ?_
 refine gg (k:= ?_)
 refine aP (mZ ((s.prog ((a:Int)*s.k+(e:Int)) [254]).2.prog ((a:Int)*s.k+(e:Int)+1) (bA key val)).2 a c jF (e:Int) (by rw[mC];unfold aG;omega) vb v0 v1) Tryz.call173 [0,1,2] ?_
 rw[mC]
 refine gg (k:= ?_)
 refine ae (vX ((s.prog ((a:Int)*s.k+(e:Int)) [254]).2.prog ((a:Int)*s.k+(e:Int)+1) (bA key val)).2 g2.ar (by omega) (by omega) [252] 1 rfl (by decide) ((a:Int)*s.k+(e:Int)) (by unfold aG;omega) X v0 v1 1) Tryz.call172 3 [1,2,88] [0,0,0] [] ?_
 refine gg (k:= ?_)
 rw[hf];unfold J.iE;rw[if_neg (fun q=>q iv),if_neg (fun q=>q qt)]
 exact⟨_,rfl,rfl,trivial⟩
theorem FN {W : Int} {n k X : Nat} (s : J) (a c : Nat) (g : av W n k s) (p : aC n k a c) (hs : a + c ≤ X) (hX : X ≤ 4194304) (v0 v1 : Nat) : Spec Tryz.prog 128 [.ref 0 v0 7 0 0, .val (.int .i64 (a : Int)), .val (.int .i64 (c : Int))] [⟨v0, .obj [.own 1 v1 1 0 s.l.length, .val (.int .i64 (X : Int)), .val (.int .i64 (s.k : Int)), .val (.int .i64 s.ar), .val (.int .i64 s.pt), .val (.bool s.dd), .val (.int .i64 s.wr)]⟩, ⟨v1, .bytes s.l⟩]
   (ak (.al [.ref 49 1 3 0 0,.val (.int .i64 0)]) [⟨v0,.obj [.own 1 v1 1 0 s.l.length,.val (.int .i64 (X:Int)),.val (.int .i64 (s.k:Int)),.val (.int .i64 s.ar),.val (.int .i64 s.pt),.val (.bool s.dd),.val (.int .i64 s.wr)]⟩,⟨v1,.bytes s.l⟩] [(49,⟨1,.obj [.ref 0 v0 7 0 0,.val (.int .i64 (a:Int)),.val (.int .i64 (c:Int))]⟩)]):=by
 have hb:=g.eZ p
 have hi:=hb.int
 have hl:=hb.len
 have qV:=g.k
 have zu:=p.ac
 have dz:=p.c1
 have eO:(64:Int)≤(c:Int)*s.k:=by rw[qV];exact_mod_cast p.fa
 refine aq aj Tryz.func128 rfl Tryz.ntmps128 Tryz.results128 ?_
 have e1:decide ((c:Int)<1)=false:=decide_eq_false (by omega)
 have e2:decide ((a:Int)<0)=false:=decide_eq_false (by omega)
 have e3:decide ((X:Int)< (c:Int))=false:=decide_eq_false (by omega)
 have e4:decide ((X:Int) - (c:Int)< (a:Int))=false:=decide_eq_false (by omega)
 have e5:decide ((c:Int)*(s.k:Int)<64)=false:=decide_eq_false (by omega)
 refine gg (k:= ?_)
 exact⟨_,rfl,rfl,rfl,trivial⟩
end Go.Proofs.YtpbpiehcchannaaGreatDoor
