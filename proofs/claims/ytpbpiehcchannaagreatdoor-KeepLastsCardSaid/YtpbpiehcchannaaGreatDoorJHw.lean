/- Walks of nvram: Open. Walks of nvram and lintellaw09: no store; the law NvramNil, once works is walked. Conditions: the premises of each law. -/
import Derived.Test.YtpbpiehcchannaaGreatDoorJHd
namespace Go.Proofs.YtpbpiehcchannaaGreatDoor
set_option linter.unusedVariables false
set_option linter.unusedSimpArgs false
set_option maxRecDepth 100000
set_option maxHeartbeats 1500000
open Go.RowKit
theorem Qk {W : Int} {n k : Nat} (s : U) (c : Nat) (g : aw W n k s) (hW : W ≤ 1000000000000000000) (pa : aA n k 0 c) (gen : Int) (qP : 0 ≤ gen ∧ gen ≤ 4294967295) (vs va vb v0 v1 : Nat) : Spec Tryz.prog 70 [.ref 0 vs 3 0 0, .ref 1 va 3 0 0, .val (.int .u32 gen), .val (.slice none 0 0)] [⟨vs, .obj [.ref 3 v0 6 0 0, .ref 1 va 3 0 0, .ref 2 vb 3 0 0]⟩, ⟨va, .obj [.ref 3 v0 6 0 0, .val (.int .i64 ((0 : Nat) : Int)), .val (.int .i64 (c : Int))]⟩, ⟨vb, .obj [.ref 3 v0 6 0 0, .val (.int .i64 (c : Int)), .val (.int .i64 (c : Int))]⟩, ⟨v0, .obj [.own 4 v1 1 0 s.l.length, .val (.int .i64 (s.k : Int)), .val (.int .i64 s.ar), .val (.int .i64 s.pt), .val (.bool s.dd), .val (.int .i64 s.wr)]⟩, ⟨v1, .bytes s.l⟩]
   (ak (.val (.int .i64 (s.cB 0 c gen []).1)) [⟨vs,.obj [.ref 3 v0 6 0 0,.ref 1 va 3 0 0,.ref 2 vb 3 0 0]⟩,⟨va,.obj [.ref 3 v0 6 0 0,.val (.int .i64 ((0:Nat):Int)),.val (.int .i64 (c:Int))]⟩,⟨vb,.obj [.ref 3 v0 6 0 0,.val (.int .i64 (c:Int)),.val (.int .i64 (c:Int))]⟩,⟨v0,.obj [.own 4 v1 1 0 (s.cB 0 c gen []).2.l.length,.val (.int .i64 ((s.cB 0 c gen []).2.k:Int)),.val (.int .i64 (s.cB 0 c gen []).2.ar),.val (.int .i64 (s.cB 0 c gen []).2.pt),.val (.bool (s.cB 0 c gen []).2.dd),.val (.int .i64 (s.cB 0 c gen []).2.wr)]⟩,⟨v1,.bytes (s.cB 0 c gen []).2.l⟩] []):=by
 have hf:=Cq s 0 c g (by omega) pa gen qP va v0 v1
 have gf:=g.format 0 c gen
 have vM:c≤4194304:=pa.ac.2
 refine ax ai Tryz.func70 rfl Tryz.ntmps70 Tryz.results70 ?_
 unfold U.cB U.bV
 generalize s.format 0 c gen=F at hf gf⊢
 obtain⟨f,t⟩:=F
 simp only at hf gf⊢
 refine gg ?_
 refine af (hf) Tryz.call113 3 [1,3,4] [0,0,0] [] ?_
 by_cases h0:f=0
 ·subst h0
  rw[if_pos rfl]
  (try rw[if_pos rfl])
  refine gg ?_
  (refine aH ?_)
  conv=>whnf
  refine cE (fun j:Nat=>j=0) (fun j=>j) 5 [8,11,12,21,22,23,24,25,26,27,28,29,30,31,32,33,34] (fun j=>[(21,.val (.int .i64 0))]) (fun j=>[]) 0 rfl ?_ ?_ ?_
  ·exact no_implicit_lambda%ten
  ·exact no_implicit_lambda%b6
  ·rintro j v rfl
   refine cF ?_
   refine gg ?_
   refine af (Cn t 0 c gf (by omega) pa va v0 v1) Tryz.call114 3 [1,3,4] [0,0,0] [] ?_
   refine gg ?_
   exact⟨_,rfl,rfl,trivial⟩
 ·rw[if_neg h0]
  refine gg ?_
  exact⟨_,rfl,rfl,trivial⟩
theorem Ql(s:U)(c:Nat):(s.a8 c).1=0∨(s.a8 c).1=1:=by
 unfold U.a8
 split
 ·exact .inr rfl
 ·exact .inl rfl
theorem IE {W : Int} {n k : Nat} (s : U) (c : Nat) (g : aw W n k s) (hW : W ≤ 1000000000000000000) (pa : aA n k 0 c) (pb : aA n k c c) (vs va vb v0 v1 : Nat) : Spec Tryz.prog 71 [.ref 0 vs 3 0 0] [⟨vs, .obj [.ref 3 v0 6 0 0, .ref 1 va 3 0 0, .ref 2 vb 3 0 0]⟩, ⟨va, .obj [.ref 3 v0 6 0 0, .val (.int .i64 ((0 : Nat) : Int)), .val (.int .i64 (c : Int))]⟩, ⟨vb, .obj [.ref 3 v0 6 0 0, .val (.int .i64 (c : Int)), .val (.int .i64 (c : Int))]⟩, ⟨v0, .obj [.own 4 v1 1 0 s.l.length, .val (.int .i64 (s.k : Int)), .val (.int .i64 s.ar), .val (.int .i64 s.pt), .val (.bool s.dd), .val (.int .i64 s.wr)]⟩, ⟨v1, .bytes s.l⟩]
   (ak (.val (.int .i64 (s.tidy c).1)) [⟨vs,.obj [.ref 3 v0 6 0 0,.ref 1 va 3 0 0,.ref 2 vb 3 0 0]⟩,⟨va,.obj [.ref 3 v0 6 0 0,.val (.int .i64 ((0:Nat):Int)),.val (.int .i64 (c:Int))]⟩,⟨vb,.obj [.ref 3 v0 6 0 0,.val (.int .i64 (c:Int)),.val (.int .i64 (c:Int))]⟩,⟨v0,.obj [.own 4 v1 1 0 (s.tidy c).2.l.length,.val (.int .i64 ((s.tidy c).2.k:Int)),.val (.int .i64 (s.tidy c).2.ar),.val (.int .i64 (s.tidy c).2.pt),.val (.bool (s.tidy c).2.dd),.val (.int .i64 (s.tidy c).2.wr)]⟩,⟨v1,.bytes (s.tidy c).2.l⟩] []):=by
 rcases Bool.eq_false_or_eq_true s.dd with hd | hd
 ·have h:s.tidy c=(6,s):=by unfold U.tidy;rw[if_pos hd]
  rw[h]
  exact OY s c g pa pb hd vs va vb v0 v1
 ·rcases Ql s c with hi | hi
  ·exact OV s c g hW pa pb hd hi vs va vb v0 v1
  ·exact OW s c g hW pa pb hd hi vs va vb v0 v1
theorem Qm{s:U}(hd:s.dd=false)(c:Nat):s.aW c=if(s.a8 c).2.2=false then(if(s.cB 0 c 1 []).1=0 then(s.cB 0 c 1 []).2.tidy c else s.cB 0 c 1 []) else s.tidy c:=by
 unfold U.aW
 rw[if_neg (by rw[hd];simp)]
theorem aw.CY{B:Int}{n k:Nat}{s:U}(g:aw B n k s)(c:Nat)(gen:Int):aw (B+c+13) n k (s.cB 0 c gen []).2:=by
 unfold U.cB U.bV
 have gf:=g.format 0 c gen
 split
 ·simp only[if_true]
  exact(gf.prog _ _).mono (by simp only[List.length_singleton];omega)
 ·exact gf.mono (by omega)
theorem IG {W : Int} {n k : Nat} (s : U) (c : Nat) (g : aw W n k s) (hW : W ≤ 1000000000000000) (pa : aA n k 0 c) (pb : aA n k c c) (hn : n = 2 * c * k) (hd : s.dd = false) (v0 v1 : Nat) : Spec Tryz.prog 17 [.ref 0 v0 6 0 0] [⟨v0, .obj [.own 1 v1 1 0 s.l.length, .val (.int .i64 (s.k : Int)), .val (.int .i64 s.ar), .val (.int .i64 s.pt), .val (.bool s.dd), .val (.int .i64 s.wr)]⟩, ⟨v1, .bytes s.l⟩]
   (fun X H=>((s.aW c).1=0→ak (.aD [.ref 39 1 3 0 0,.val (.int .i64 0)]) [⟨v0,.obj [.own 1 v1 1 0 (s.aW c).2.l.length,.val (.int .i64 ((s.aW c).2.k:Int)),.val (.int .i64 (s.aW c).2.ar),.val (.int .i64 (s.aW c).2.pt),.val (.bool (s.aW c).2.dd),.val (.int .i64 (s.aW c).2.wr)]⟩,⟨v1,.bytes (s.aW c).2.l⟩] [(39,⟨1,.obj [.ref 0 v0 6 0 0,.ref 80 2 3 0 0,.ref 81 2 3 0 0]⟩),(80,⟨2,.obj [.ref 0 v0 6 0 0,.val (.int .i64 ((0:Nat):Int)),.val (.int .i64 (c:Int))]⟩),(81,⟨2,.obj [.ref 0 v0 6 0 0,.val (.int .i64 (c:Int)),.val (.int .i64 (c:Int))]⟩)] X H)∧
    ((s.aW c).1≠0→ak (.aD [.val (.pointer none),.val (.int .i64 (s.aW c).1)]) [⟨v0,.obj [.own 1 v1 1 0 (s.aW c).2.l.length,.val (.int .i64 ((s.aW c).2.k:Int)),.val (.int .i64 (s.aW c).2.ar),.val (.int .i64 (s.aW c).2.pt),.val (.bool (s.aW c).2.dd),.val (.int .i64 (s.aW c).2.wr)]⟩,⟨v1,.bytes (s.aW c).2.l⟩] [] X H)):=by
 have gn:=g.kk
 have jg:=g.l
 have dH:=g.k
 have hlen:=g.len
 have II:(s.l.length:Int)/(s.k:Int)=2*(c:Int):=by
  rw[jg,dH,hn,Nat.mul_assoc,Nat.mul_comm c k,←Nat.mul_assoc,Nat.mul_comm 2 k,Nat.mul_assoc]
  rw[Int.natCast_mul,Int.mul_ediv_cancel_left _ (by omega)]
  omega
 have sR:(n:Int)/(k:Int)=2*(c:Int):=by rw[←II,jg,dH]
 have wX:=Ck s (by omega) ⟨by omega,by omega⟩ v0 v1
 rw[II] at wX
 have gA:=pa.big
 have vM:c≤4194304:=pa.ac.2
 have cA:(c:Int)*(s.k:Int)=((c*k:Nat):Int):=by rw[dH];simp
 have jU:=pa.fit
 refine ax ai Tryz.func17 rfl Tryz.ntmps17 Tryz.results17 ?_
 refine gg ?_
 refine aY (wX) Tryz.call66 [0,1] ?_
 refine gg ?_
 rw[show(2*(c:Int))/2=(c:Int) by omega]
 refine aY (wX) Tryz.call66 [0,1] ?_
 refine gg ?_
 rw[show(2*(c:Int))%2=0 by omega]
 refine gg ?_
 refine ji (k:= ?_)
 refine aY (vD s v0 v1) Tryz.call67 [0,1] ?_
 refine gg ?_
 rw[decide_eq_false (by omega:¬(c:Int)*(s.k:Int)<64)]
 refine⟨fun h=>absurd h (by simp),fun _=> ?_⟩
 refine gg ?_
 refine aY (pJ s false hd v0 v1) Tryz.call31 [0,1] ?_
 refine gg ?_
 (refine aH ?_)
 conv=>whnf
 refine cE (fun i:Nat=>i≤2) (fun i=>2 - i) 2 [2,3,6,7,8,38,39,40,41,42,43,44,45,46,47,48,49,50,51,52,53,54,55,56,57,58,59] (fun i=>[(38,.val (.int .i64 (i:Int)))]) (fun i=>[(39,⟨1,.obj [.ref 0 v0 6 0 0,(if i=0 then .val (.pointer none) else .ref 80 2 3 0 0),(if i=2 then .ref 81 2 3 0 0 else .val (.pointer none))]⟩),(80,if i=0 then⟨0,.dead⟩ else⟨2,.obj [.ref 0 v0 6 0 0,.val (.int .i64 ((0:Nat):Int)),.val (.int .i64 (c:Int))]⟩),(81,if i=2 then⟨2,.obj [.ref 0 v0 6 0 0,.val (.int .i64 (c:Int)),.val (.int .i64 (c:Int))]⟩ else⟨0,.dead⟩)]) 0 (by decide) ?_ ?_ ?_
 ·exact no_implicit_lambda%ten
 ·exact no_implicit_lambda%b6
 ·rintro i v i1
  refine cF ?_
  refine gg ?_
  refine⟨fun h=> ?_,fun h=> ?_⟩
  ·obtain rfl | rfl:i=0∨i=1:=by have:=of_decide_eq_true h;omega
   ·refine gg ?_
    rw[show((0:Nat):Int)*(c:Int)=((0:Nat):Int) by simp]
    refine af (Hg s 0 c g pa (by rw[sR];omega) v0 v1) Tryz.call68 (had:=⟨⟨_,rfl,(by show(0:Nat)<1;decide)⟩,trivial⟩) 2 [0,1,0,0,0,0,0,0,0,0,0,0,0,0,0,0,0,0,0,0,0,0,0,0,0,0,0,0,0,0,0,0,0,0,0,0,0,0,0,0,0,0,0,0,0,80] [0,0,0,0,0,0,0,0,0,0,0,0,0,0,0,0,0,0,0,0,0,0,0,0,0,0,0,0,0,0,0,0,0,0,0,0,0,0,0,0,0,0,0,0,0,1] [45] ?_
    refine gg ?_
    exact bk 1 (by decide) (by show 2 - 1<2 - 0;decide)
   ·refine gg ?_
    rw[show((1:Nat):Int)*(c:Int)=(c:Int) by simp]
    refine af (Hg s c c g pb (by rw[sR];omega) v0 v1) Tryz.call68 (had:=⟨⟨_,rfl,(by show(0:Nat)<1;decide)⟩,trivial⟩) 2 [0,1,0,0,0,0,0,0,0,0,0,0,0,0,0,0,0,0,0,0,0,0,0,0,0,0,0,0,0,0,0,0,0,0,0,0,0,0,0,0,0,0,0,0,0,81] [0,0,0,0,0,0,0,0,0,0,0,0,0,0,0,0,0,0,0,0,0,0,0,0,0,0,0,0,0,0,0,0,0,0,0,0,0,0,0,0,0,0,0,0,0,1] [45] ?_
    refine gg ?_
    exact bk 2 (by decide) (by show 2 - 2<2 - 1;decide)
  ·obtain rfl:i=2:=by have:=of_decide_eq_false h;omega
   have dE:=pF s c g pa pb 1 2 2 v0 v1
   have pL:=Qk s c g (by omega) pa 1 (by decide) 1 2 2 v0 v1
   have gb:=g.CY c 1
   have IJ:=IE s c g (by omega) pa pb 1 2 2 v0 v1
   have ay:=IE _ c gb (by omega) pa pb 1 2 2 v0 v1
   have hO:=Qm hd c
   refine gg ?_
   cases hr:(s.a8 c).2.2 with
   | true=>
    rw[hr] at dE
    rw[hr,if_neg (by simp)] at hO
    rw[hO]
    generalize s.tidy c=T at IJ⊢
    refine af (dE) Tryz.call69 5 [39,80,81,0,1] [0,0,0,0,0] [] ?_
    refine gg ?_
    refine af (IJ) Tryz.call71 5 [39,80,81,0,1] [0,0,0,0,0] [] ?_
    (
 by_cases hT:T.1=0
 ·refine gg ?_
  (try rw[decide_eq_true hT])
  refine gg ?_
  exact⟨fun _=>⟨_,rfl,rfl,rfl,rfl,rfl,trivial⟩,fun h=>absurd hT h⟩
 ·refine gg ?_
  exact fun _=>⟨_,rfl,rfl,trivial⟩)
   | false=>
    rw[hr] at dE
    rw[hr,if_pos rfl] at hO
    rw[hO]
    clear hO
    generalize s.cB 0 c 1 []=B at pL gb ay⊢
    refine af (dE) Tryz.call69 5 [39,80,81,0,1] [0,0,0,0,0] [] ?_
    refine gg ?_
    refine af (pL) Tryz.call70 5 [39,80,81,0,1] [0,0,0,0,0] [] ?_
    by_cases hB:B.1=0
    ·rw[if_pos hB]
     generalize B.2.tidy c=T at ay⊢
     refine gg ?_
     rw[decide_eq_true hB]
     refine gg ?_
     refine af (ay) Tryz.call71 5 [39,80,81,0,1] [0,0,0,0,0] [] ?_
     (
 by_cases hT:T.1=0
 ·refine gg ?_
  (try rw[decide_eq_true hT])
  refine gg ?_
  exact⟨fun _=>⟨_,rfl,rfl,rfl,rfl,rfl,trivial⟩,fun h=>absurd hT h⟩
 ·refine gg ?_
  exact fun _ => ⟨_, rfl, rfl, trivial⟩)
    ·rw[if_neg hB]
     refine gg ?_
     exact fun _=>⟨_,rfl,rfl,trivial⟩
end Go.Proofs.YtpbpiehcchannaaGreatDoor
