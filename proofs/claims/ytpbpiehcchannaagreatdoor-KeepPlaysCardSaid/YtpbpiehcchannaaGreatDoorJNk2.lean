/- Walks of nvram: Keys. Conditions: none. -/
import Derived.Test.YtpbpiehcchannaaGreatDoorJHs
import Derived.Test.YtpbpiehcchannaaGreatDoorJHv
namespace Go.Proofs.YtpbpiehcchannaaGreatDoor
open Go.RowKit
set_option linter.unusedVariables false
set_option linter.unusedSimpArgs false
set_option maxRecDepth 100000
set_option maxHeartbeats 1500000
def kOf(l:List Rc):List (Nat×Nat):=(keptR l l.length).map fun r=>(r.i,r.kn)
def keysK(l:List RK):List (List UInt8):=(keptK l).map fun r=>r.key
theorem kOf_len(l:List Rc):(kOf l).length=(keptR l l.length).length:=List.length_map ..
theorem keysK_len(l:List Rc):(keysK (l.map rkOf)).length=(kOf l).length:=by rw[kOf_len,(RRel.kept l).len,keysK,List.length_map]
theorem kOf_key(l:List Rc)(i:Nat)(x:Nat×Nat)(k:List UInt8)(hx:(kOf l)[i]? =some x)(hk:(keysK (l.map rkOf))[i]? =some k):(poolOf l)[x.1]? =some k∧x.2=k.length:=by
 unfold kOf at hx
 unfold keysK at hk
 rw[List.getElem?_map] at hx hk
 obtain⟨r,hr,rfl⟩:=Option.map_eq_some_iff.1 hx
 obtain⟨y,hy,rfl⟩:=Option.map_eq_some_iff.1 hk
 obtain⟨y1,y2,_⟩:=(RRel.kept l).el i r y hr hy
 exact⟨y1,y2⟩
theorem keysK_nod(l:List RK):(keysK l).Nodup:=by
 unfold keysK keptK
 rw[List.map_map]
 refine List.Pairwise.map _ ?_ (List.Pairwise.and_mem.1 (List.nodup_range (n:=l.length) |>.sublist List.filter_sublist:(keptI l l.length).Nodup))
 rintro a b ⟨ha,hb,hne⟩ e
 have h1:=of_decide_eq_true (List.mem_filter.1 ha).2
 have h2:=of_decide_eq_true (List.mem_filter.1 hb).2
 simp only[Function.comp_apply] at e
 rw[e,h2] at h1
 exact hne (by omega)
theorem keys0 {W : Int} {n k : Nat} (s : FlS) (c : Nat) (g : Goes W n k s) (pa : Lies n k 0 c) (pb : Lies n k c c) (hd : s.dd = false) (hi : (s.cnt c).1 = 0) {l : List Rc} {e : Nat} {b : Bool} (hS : s.scan 0 c = (l, e, b)) (vs va vb v0 v1 : Nat) : Spec Tryz.prog 72 [.ref 0 vs 3 0 0] [⟨vs, .obj [.ref 3 v0 6 0 0, .ref 1 va 3 0 0, .ref 2 vb 3 0 0]⟩, ⟨va, .obj [.ref 3 v0 6 0 0, .val (.int .i64 ((0 : Nat) : Int)), .val (.int .i64 (c : Int))]⟩, ⟨vb, .obj [.ref 3 v0 6 0 0, .val (.int .i64 (c : Int)), .val (.int .i64 (c : Int))]⟩, ⟨v0, .obj [.own 4 v1 1 0 s.l.length, .val (.int .i64 (s.k : Int)), .val (.int .i64 s.ar), .val (.int .i64 s.pt), .val (.bool s.dd), .val (.int .i64 s.wr)]⟩, ⟨v1, .bytes s.l⟩]
   (pms (.tup [.own 33 ((kOf l).length+1) 1 0 (kOf l).length,.val (.int .i64 0)]) [⟨vs,.obj [.ref 3 v0 6 0 0,.ref 1 va 3 0 0,.ref 2 vb 3 0 0]⟩,⟨va,.obj [.ref 3 v0 6 0 0,.val (.int .i64 ((0:Nat):Int)),.val (.int .i64 (c:Int))]⟩,⟨vb,.obj [.ref 3 v0 6 0 0,.val (.int .i64 (c:Int)),.val (.int .i64 (c:Int))]⟩,⟨v0,.obj [.own 4 v1 1 0 s.l.length,.val (.int .i64 (s.k:Int)),.val (.int .i64 s.ar),.val (.int .i64 s.pt),.val (.bool s.dd),.val (.int .i64 s.wr)]⟩,⟨v1,.bytes s.l⟩] [(33,⟨(kOf l).length+1,.row 1 (plA 21 4) (0,0) (srtR (keysK (l.map rkOf)) (kOf l))⟩),(21,⟨4,.pool (poolOf l)⟩)]):=by
 (
 have hbd:=look_bound g pa hS
 have hfw:=look_few g pa hS
 have hnw:=now0 s c g pa pb hd hi l e b hS vs va vb v0 v1
 have hkl:=keptI_len (l.map rkOf) l.length
 have hK:(kOf l).length=(keptR l l.length).length:=kOf_len l
 have hKl:(kOf l).length≤4194304:=by rw[hK,keptR_len];omega
 refine spec_entry tbOk Tryz.func72 rfl Tryz.ntmps72 Tryz.results72 ?_
 refine gg (k:= ?_)
 refine cmks (hnw) Tryz.call77 (he:=⟨fun _=>⟨rfl,rfl,trivial,trivial⟩,trivial,fun _=>⟨rfl,rfl,trivial,trivial⟩,trivial⟩) 5 [0,1,2,3,4,0,0,0,0,0,0,0,0,0,0,0,0,0,0,0,0,0,0,0,0,0,0,0,0,0,20,21,22] [0,0,0,0,0,0,0,0,0,0,0,0,0,0,0,0,0,0,0,0,0,0,0,0,0,0,0,0,0,0,1,1,1] [30,31,32] ?_
 refine gg (k:= ?_)
 (refine sts (k:= ?_))
 conv=>whnf
 refine loop_le (leS_nil 33 1 (.row 1 (plA 21 4) (0,0) []) rfl (by decide) rfl (t':=[.any,.any,.any,.any,.any,.any,.own 33 1 1 0 0,.any,.any,.any,.any,.any,.any,.any,.any,.any,.any,.any,.own 22 4 3 0 (keptR l l.length).length,.val (.int .i64 ((keptR l l.length).length:Int)),.val (.int .i64 0),.any,.any,.any,.any,.any,.any,.any,.any,.any,.any,.any,.any]) ?_) ?_
 ·simp[leTn,setD,setL,updH,evA,unA,getA,getL,constA,undefs,deads]
 dsimp only[setL]
 refine loop_at (fun i:Nat=>i≤(kOf l).length) (fun i=>(kOf l).length - i) 5 [6,8,20,21,22,23,24,25,26,27,28,29] (fun i=>[(6,.own 33 (i+1) 1 0 i),(20,.val (.int .i64 (i:Int)))])
  (fun i=>[(33,⟨i+1,.row 1 (plA 21 4) (0,0) ((kOf l).take i)⟩)]) 0 (Nat.zero_le _) ?_ ?_ ?_
 ·exact no_implicit_lambda%ten
 ·exact no_implicit_lambda%hen
 ·rintro i v i1
  refine glp (k:= ?_)
  refine gg (k:= ?_)
  refine⟨fun h=> ?_,fun h=> ?_⟩
  ·have hlt:i< (kOf l).length:=by have:=of_decide_eq_true h;omega
   obtain⟨x,hx⟩:∃x,(keptR l l.length)[i]? =some x:=⟨_,List.getElem?_eq_getElem (by omega)⟩
   have hg:(keptR l l.length).getD i ⟨0,0,0,false⟩=x:=by rw[List.getD_eq_getElem?_getD,hx];rfl
   have hT:(kOf l).take (i+1)=(kOf l).take i++[(x.i,x.kn)]:=by
    rw[List.take_succ_eq_append_getElem hlt]
    congr 2
    unfold kOf at hlt⊢
    rw[List.getElem_map]
    rw[List.getElem?_eq_getElem (by simpa using hlt)] at hx
    rw[Option.some.inj hx]
   have hTl:((kOf l).take i).length=i:=by rw[List.length_take];omega
   have hTm:((kOf l).take (i+1)).length=i+1:=by rw[List.length_take];omega
   refine gg (k:= ?_)
   simp only[Int.toNat_natCast,Nat.zero_add]
   have hjr:i< (keptR l l.length).length:=by omega
   (conv=>whnf)
   refine And.intro ⟨rfl,⟨rfl,hjr⟩,Nat.le_of_ble_eq_true rfl⟩ ?_
   rw[hg]
   refine gg (k:= ?_)
   refine⟨Nat×Nat,plA 21 4,(0,0),(kOf l).take (i+1),?_⟩
   conv=>whnf
   refine And.intro ⟨rfl,⟨rfl,rfl,Nat.le_refl _,fun q hq=>(by(have hq0:q=0:=by simpa using hq);subst hq0;exact⟨rfl,trivial⟩)⟩,rfl,rfl,rfl,hTl.symm,.inr rfl,(by rw[hT,List.map_append];rfl),by show _*24≤_;omega,by decide⟩ ?_
   rw[hTm]
   refine gg (k:= ?_)
   refine back_at (i+1) hlt (by show(kOf l).length - (i+1)< (kOf l).length - i;omega) ?_ ?_
   ·exact no_implicit_lambda%ten
   ·exact no_implicit_lambda%hen
  ·obtain rfl:i=(kOf l).length:=by have:=of_decide_eq_false h;omega
   rw[List.take_length]
   refine gg (k:= ?_)
   refine cmks (sortf_vc (kOf l) (poolOf l) (keysK (l.map rkOf)) (keysK_len l) (kOf_key l) (keysK_nod _) hKl (kOf l).length rfl ((kOf l).length+1) 4) Tryz.call116 (hrows:=⟨⟨fun _=>⟨Nat.lt_succ_self 1,trivial⟩,rfl⟩,⟨trivial,rfl⟩,trivial⟩) (hr2:=⟨fun _=>⟨rfl,trivial⟩,trivial,trivial⟩) 2 [33,21] [0,0] [] ?_
   refine gg (k:= ?_)
   exact⟨_,rfl,rfl,rfl,rfl,trivial⟩)
theorem keys1 {W : Int} {n k : Nat} (s : FlS) (c : Nat) (g : Goes W n k s) (pa : Lies n k 0 c) (pb : Lies n k c c) (hd : s.dd = false) (hi : (s.cnt c).1 = 1) {l : List Rc} {e : Nat} {b : Bool} (hS : s.scan c c = (l, e, b)) (vs va vb v0 v1 : Nat) : Spec Tryz.prog 72 [.ref 0 vs 3 0 0] [⟨vs, .obj [.ref 3 v0 6 0 0, .ref 1 va 3 0 0, .ref 2 vb 3 0 0]⟩, ⟨va, .obj [.ref 3 v0 6 0 0, .val (.int .i64 ((0 : Nat) : Int)), .val (.int .i64 (c : Int))]⟩, ⟨vb, .obj [.ref 3 v0 6 0 0, .val (.int .i64 (c : Int)), .val (.int .i64 (c : Int))]⟩, ⟨v0, .obj [.own 4 v1 1 0 s.l.length, .val (.int .i64 (s.k : Int)), .val (.int .i64 s.ar), .val (.int .i64 s.pt), .val (.bool s.dd), .val (.int .i64 s.wr)]⟩, ⟨v1, .bytes s.l⟩]
   (pms (.tup [.own 33 ((kOf l).length+1) 1 0 (kOf l).length,.val (.int .i64 0)]) [⟨vs,.obj [.ref 3 v0 6 0 0,.ref 1 va 3 0 0,.ref 2 vb 3 0 0]⟩,⟨va,.obj [.ref 3 v0 6 0 0,.val (.int .i64 ((0:Nat):Int)),.val (.int .i64 (c:Int))]⟩,⟨vb,.obj [.ref 3 v0 6 0 0,.val (.int .i64 (c:Int)),.val (.int .i64 (c:Int))]⟩,⟨v0,.obj [.own 4 v1 1 0 s.l.length,.val (.int .i64 (s.k:Int)),.val (.int .i64 s.ar),.val (.int .i64 s.pt),.val (.bool s.dd),.val (.int .i64 s.wr)]⟩,⟨v1,.bytes s.l⟩] [(33,⟨(kOf l).length+1,.row 1 (plA 21 4) (0,0) (srtR (keysK (l.map rkOf)) (kOf l))⟩),(21,⟨4,.pool (poolOf l)⟩)]):=by
 (
 have hbd:=look_bound g pb hS
 have hfw:=look_few g pb hS
 have hnw:=now1 s c g pa pb hd hi l e b hS vs va vb v0 v1
 have hkl:=keptI_len (l.map rkOf) l.length
 have hK:(kOf l).length=(keptR l l.length).length:=kOf_len l
 have hKl:(kOf l).length≤4194304:=by rw[hK,keptR_len];omega
 refine spec_entry tbOk Tryz.func72 rfl Tryz.ntmps72 Tryz.results72 ?_
 refine gg (k:= ?_)
 refine cmks (hnw) Tryz.call77 (he:=⟨fun _=>⟨rfl,rfl,trivial,trivial⟩,trivial,fun _=>⟨rfl,rfl,trivial,trivial⟩,trivial⟩) 5 [0,1,2,3,4,0,0,0,0,0,0,0,0,0,0,0,0,0,0,0,0,0,0,0,0,0,0,0,0,0,20,21,22] [0,0,0,0,0,0,0,0,0,0,0,0,0,0,0,0,0,0,0,0,0,0,0,0,0,0,0,0,0,0,1,1,1] [30,31,32] ?_
 refine gg (k:= ?_)
 (refine sts (k:= ?_))
 conv=>whnf
 refine loop_le (leS_nil 33 1 (.row 1 (plA 21 4) (0,0) []) rfl (by decide) rfl (t':=[.any,.any,.any,.any,.any,.any,.own 33 1 1 0 0,.any,.any,.any,.any,.any,.any,.any,.any,.any,.any,.any,.own 22 4 3 0 (keptR l l.length).length,.val (.int .i64 ((keptR l l.length).length:Int)),.val (.int .i64 0),.any,.any,.any,.any,.any,.any,.any,.any,.any,.any,.any,.any]) ?_) ?_
 ·simp[leTn,setD,setL,updH,evA,unA,getA,getL,constA,undefs,deads]
 dsimp only[setL]
 refine loop_at (fun i:Nat=>i≤(kOf l).length) (fun i=>(kOf l).length - i) 5 [6,8,20,21,22,23,24,25,26,27,28,29] (fun i=>[(6,.own 33 (i+1) 1 0 i),(20,.val (.int .i64 (i:Int)))])
  (fun i=>[(33,⟨i+1,.row 1 (plA 21 4) (0,0) ((kOf l).take i)⟩)]) 0 (Nat.zero_le _) ?_ ?_ ?_
 ·exact no_implicit_lambda%ten
 ·exact no_implicit_lambda%hen
 ·rintro i v i1
  refine glp (k:= ?_)
  refine gg (k:= ?_)
  refine⟨fun h=> ?_,fun h=> ?_⟩
  ·have hlt:i< (kOf l).length:=by have:=of_decide_eq_true h;omega
   obtain⟨x,hx⟩:∃x,(keptR l l.length)[i]? =some x:=⟨_,List.getElem?_eq_getElem (by omega)⟩
   have hg:(keptR l l.length).getD i ⟨0,0,0,false⟩=x:=by rw[List.getD_eq_getElem?_getD,hx];rfl
   have hT:(kOf l).take (i+1)=(kOf l).take i++[(x.i,x.kn)]:=by
    rw[List.take_succ_eq_append_getElem hlt]
    congr 2
    unfold kOf at hlt⊢
    rw[List.getElem_map]
    rw[List.getElem?_eq_getElem (by simpa using hlt)] at hx
    rw[Option.some.inj hx]
   have hTl:((kOf l).take i).length=i:=by rw[List.length_take];omega
   have hTm:((kOf l).take (i+1)).length=i+1:=by rw[List.length_take];omega
   refine gg (k:= ?_)
   simp only[Int.toNat_natCast,Nat.zero_add]
   have hjr:i< (keptR l l.length).length:=by omega
   (conv=>whnf)
   refine And.intro ⟨rfl,⟨rfl,hjr⟩,Nat.le_of_ble_eq_true rfl⟩ ?_
   rw[hg]
   refine gg (k:= ?_)
   refine⟨Nat×Nat,plA 21 4,(0,0),(kOf l).take (i+1),?_⟩
   conv=>whnf
   refine And.intro ⟨rfl,⟨rfl,rfl,Nat.le_refl _,fun q hq=>(by(have hq0:q=0:=by simpa using hq);subst hq0;exact⟨rfl,trivial⟩)⟩,rfl,rfl,rfl,hTl.symm,.inr rfl,(by rw[hT,List.map_append];rfl),by show _*24≤_;omega,by decide⟩ ?_
   rw[hTm]
   refine gg (k:= ?_)
   refine back_at (i+1) hlt (by show(kOf l).length - (i+1)< (kOf l).length - i;omega) ?_ ?_
   ·exact no_implicit_lambda%ten
   ·exact no_implicit_lambda%hen
  ·obtain rfl:i=(kOf l).length:=by have:=of_decide_eq_false h;omega
   rw[List.take_length]
   refine gg (k:= ?_)
   refine cmks (sortf_vc (kOf l) (poolOf l) (keysK (l.map rkOf)) (keysK_len l) (kOf_key l) (keysK_nod _) hKl (kOf l).length rfl ((kOf l).length+1) 4) Tryz.call116 (hrows:=⟨⟨fun _=>⟨Nat.lt_succ_self 1,trivial⟩,rfl⟩,⟨trivial,rfl⟩,trivial⟩) (hr2:=⟨fun _=>⟨rfl,trivial⟩,trivial,trivial⟩) 2 [33,21] [0,0] [] ?_
   refine gg (k:= ?_)
   exact⟨_,rfl,rfl,rfl,rfl,trivial⟩)
end Go.Proofs.YtpbpiehcchannaaGreatDoor
