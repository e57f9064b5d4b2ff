/- Walks of nvram: Open. Walks of nvram and lintellaw09: no store; the law NvramNil, once works is walked. Conditions: the premises of each law. -/
import Derived.Test.YtpbpiehcchannaaGreatDoorJNv10
namespace Go.Proofs.YtpbpiehcchannaaGreatDoor
open Go.RowKit
set_option linter.unusedVariables false
set_option linter.unusedSimpArgs false
set_option maxRecDepth 100000
set_option maxHeartbeats 1500000
theorem Nt {W : Int} {n k : Nat} (s : J) (c : Nat) (g : av W n k s) (hW : W ≤ 1000000000000000000) (pa : aC n k 0 c) (gen : Int) (lY : 0 ≤ gen ∧ gen ≤ 4294967295) (vs va vb v0 v1 : Nat) : Spec Tryz.prog 70 [.ref 0 vs 3 0 0, .ref 1 va 3 0 0, .val (.int .u32 gen), .val (.slice none 0 0)] [⟨vs, .obj [.ref 3 v0 6 0 0, .ref 1 va 3 0 0, .ref 2 vb 3 0 0]⟩, ⟨va, .obj [.ref 3 v0 6 0 0, .val (.int .i64 ((0 : Nat) : Int)), .val (.int .i64 (c : Int))]⟩, ⟨vb, .obj [.ref 3 v0 6 0 0, .val (.int .i64 (c : Int)), .val (.int .i64 (c : Int))]⟩, ⟨v0, .obj [.own 4 v1 1 0 s.l.length, .val (.int .i64 (s.k : Int)), .val (.int .i64 s.ar), .val (.int .i64 s.pt), .val (.bool s.dd), .val (.int .i64 s.wr)]⟩, ⟨v1, .bytes s.l⟩]
   (ak (.val (.int .i64 (s.b6 0 c gen []).1)) [⟨vs,.obj [.ref 3 v0 6 0 0,.ref 1 va 3 0 0,.ref 2 vb 3 0 0]⟩,⟨va,.obj [.ref 3 v0 6 0 0,.val (.int .i64 ((0:Nat):Int)),.val (.int .i64 (c:Int))]⟩,⟨vb,.obj [.ref 3 v0 6 0 0,.val (.int .i64 (c:Int)),.val (.int .i64 (c:Int))]⟩,⟨v0,.obj [.own 4 v1 1 0 (s.b6 0 c gen []).2.l.length,.val (.int .i64 ((s.b6 0 c gen []).2.k:Int)),.val (.int .i64 (s.b6 0 c gen []).2.ar),.val (.int .i64 (s.b6 0 c gen []).2.pt),.val (.bool (s.b6 0 c gen []).2.dd),.val (.int .i64 (s.b6 0 c gen []).2.wr)]⟩,⟨v1,.bytes (s.b6 0 c gen []).2.l⟩] []):=by
 have hf:=zt s 0 c g (by omega) pa gen lY va v0 v1
 have gf:=g.format 0 c gen
 have kJ:c≤4194304:=pa.ac.2
 refine aq aj Tryz.func70 rfl Tryz.ntmps70 Tryz.results70 ?_
 unfold J.b6 J.bf
 generalize s.format 0 c gen=F at hf gf⊢
 obtain⟨f,t⟩:=F
 simp only at hf gf⊢
 refine gg (k:= ?_)
 refine ae (hf) Tryz.call113 3 [1,3,4] [0,0,0] [] ?_
 by_cases h0:f=0
 ·subst h0
  rw[if_pos rfl]
  (try rw[if_pos rfl])
  refine gg (k:= ?_)
  (refine ax (k:= ?_))
  conv=>whnf
  refine bh (fun j:Nat=>j=0) (fun j=>j) 5 [8,11,12,21,22,23,24,25,26,27,28,29,30,31,32,33,34] (fun j=>[(21,.val (.int .i64 0))]) (fun j=>[]) 0 rfl ?_ ?_ ?_
  ·exact no_implicit_lambda%ten
  ·exact no_implicit_lambda%az
  ·rintro j v rfl
   refine bc (k:= ?_)
   refine gg (k:= ?_)
   refine ae (zq t 0 c gf (by omega) pa va v0 v1) Tryz.call114 3 [1,3,4] [0,0,0] [] ?_
   refine gg (k:= ?_)
   exact⟨_,rfl,rfl,trivial⟩
 ·rw[if_neg h0]
  refine gg (k:= ?_)
  exact⟨_,rfl,rfl,trivial⟩
theorem Nu(s:J)(c:Nat):(s.aI c).1=0∨(s.aI c).1=1:=by
 unfold J.aI
 split
 ·exact .inr rfl
 ·exact .inl rfl
theorem FP {W : Int} {n k : Nat} (s : J) (c : Nat) (g : av W n k s) (hW : W ≤ 1000000000000000000) (pa : aC n k 0 c) (pb : aC n k c c) (vs va vb v0 v1 : Nat) : Spec Tryz.prog 71 [.ref 0 vs 3 0 0] [⟨vs, .obj [.ref 3 v0 6 0 0, .ref 1 va 3 0 0, .ref 2 vb 3 0 0]⟩, ⟨va, .obj [.ref 3 v0 6 0 0, .val (.int .i64 ((0 : Nat) : Int)), .val (.int .i64 (c : Int))]⟩, ⟨vb, .obj [.ref 3 v0 6 0 0, .val (.int .i64 (c : Int)), .val (.int .i64 (c : Int))]⟩, ⟨v0, .obj [.own 4 v1 1 0 s.l.length, .val (.int .i64 (s.k : Int)), .val (.int .i64 s.ar), .val (.int .i64 s.pt), .val (.bool s.dd), .val (.int .i64 s.wr)]⟩, ⟨v1, .bytes s.l⟩]
   (ak (.val (.int .i64 (s.tidy c).1)) [⟨vs,.obj [.ref 3 v0 6 0 0,.ref 1 va 3 0 0,.ref 2 vb 3 0 0]⟩,⟨va,.obj [.ref 3 v0 6 0 0,.val (.int .i64 ((0:Nat):Int)),.val (.int .i64 (c:Int))]⟩,⟨vb,.obj [.ref 3 v0 6 0 0,.val (.int .i64 (c:Int)),.val (.int .i64 (c:Int))]⟩,⟨v0,.obj [.own 4 v1 1 0 (s.tidy c).2.l.length,.val (.int .i64 ((s.tidy c).2.k:Int)),.val (.int .i64 (s.tidy c).2.ar),.val (.int .i64 (s.tidy c).2.pt),.val (.bool (s.tidy c).2.dd),.val (.int .i64 (s.tidy c).2.wr)]⟩,⟨v1,.bytes (s.tidy c).2.l⟩] []):=by
 rcases Bool.eq_false_or_eq_true s.dd with hd | hd
 ·have h:s.tidy c=(6,s):=by unfold J.tidy;rw[if_pos hd]
  rw[h]
  exact Nv s c g pa pb hd vs va vb v0 v1
 ·rcases Nu s c with hi | hi
  ·exact Nw s c g hW pa pb hd hi vs va vb v0 v1
  ·exact Nx s c g hW pa pb hd hi vs va vb v0 v1
theorem FQ{s:J}(hd:s.dd=false)(c:Nat):s.bg c=if(s.aI c).2.2=false then(if(s.b6 0 c 1 []).1=0 then(s.b6 0 c 1 []).2.tidy c else s.b6 0 c 1 []) else s.tidy c:=by
 unfold J.bg
 rw[if_neg (by rw[hd];simp)]
theorem av.vV{B:Int}{n k:Nat}{s:J}(g:av B n k s)(c:Nat)(gen:Int):av (B+c+13) n k (s.b6 0 c gen []).2:=by
 unfold J.b6 J.bf
 have gf:=g.format 0 c gen
 split
 ·simp only[if_true]
  exact(gf.prog _ _).mono (by simp only[List.length_singleton];omega)
 ·exact gf.mono (by omega)
theorem v8 {W : Int} {n k : Nat} (s : J) (c : Nat) (g : av W n k s) (hW : W ≤ 1000000000000000) (pa : aC n k 0 c) (pb : aC n k c c) (hn : n = 2 * c * k) (hd : s.dd = false) (v0 v1 : Nat) : Spec Tryz.prog 17 [.ref 0 v0 6 0 0] [⟨v0, .obj [.own 1 v1 1 0 s.l.length, .val (.int .i64 (s.k : Int)), .val (.int .i64 s.ar), .val (.int .i64 s.pt), .val (.bool s.dd), .val (.int .i64 s.wr)]⟩, ⟨v1, .bytes s.l⟩]
   (fun X H=>((s.bg c).1=0→ak (.al [.ref 39 1 3 0 0,.val (.int .i64 0)]) [⟨v0,.obj [.own 1 v1 1 0 (s.bg c).2.l.length,.val (.int .i64 ((s.bg c).2.k:Int)),.val (.int .i64 (s.bg c).2.ar),.val (.int .i64 (s.bg c).2.pt),.val (.bool (s.bg c).2.dd),.val (.int .i64 (s.bg c).2.wr)]⟩,⟨v1,.bytes (s.bg c).2.l⟩] [(39,⟨1,.obj [.ref 0 v0 6 0 0,.ref 80 2 3 0 0,.ref 81 2 3 0 0]⟩),(80,⟨2,.obj [.ref 0 v0 6 0 0,.val (.int .i64 ((0:Nat):Int)),.val (.int .i64 (c:Int))]⟩),(81,⟨2,.obj [.ref 0 v0 6 0 0,.val (.int .i64 (c:Int)),.val (.int .i64 (c:Int))]⟩)] X H)∧
    ((s.bg c).1≠0→ak (.al [.val (.pointer none),.val (.int .i64 (s.bg c).1)]) [⟨v0,.obj [.own 1 v1 1 0 (s.bg c).2.l.length,.val (.int .i64 ((s.bg c).2.k:Int)),.val (.int .i64 (s.bg c).2.ar),.val (.int .i64 (s.bg c).2.pt),.val (.bool (s.bg c).2.dd),.val (.int .i64 (s.bg c).2.wr)]⟩,⟨v1,.bytes (s.bg c).2.l⟩] [] X H)):=by
 have cC:=g.kk
 have eA:=g.l
 have cu:=g.k
 have hlen:=g.len
 have rv:(s.l.length:Int)/(s.k:Int)=2*(c:Int):=by
  rw[eA,cu,hn,Nat.mul_assoc,Nat.mul_comm c k,←Nat.mul_assoc,Nat.mul_comm 2 k,Nat.mul_assoc]
  rw[Int.natCast_mul,Int.mul_ediv_cancel_left _ (by omega)]
  omega
 have gE:(n:Int)/(k:Int)=2*(c:Int):=by rw[←rv,eA,cu]
 have kh:=s7 s (by omega) ⟨by omega,by omega⟩ v0 v1
 rw[rv] at kh
 have eO:=pa.fa
 have kJ:c≤4194304:=pa.ac.2
 have cq:(c:Int)*(s.k:Int)=((c*k:Nat):Int):=by rw[cu];simp
 have fy:=pa.fit
 refine aq aj Tryz.func17 rfl Tryz.ntmps17 Tryz.results17 ?_
 refine gg (k:= ?_)
 refine aP (kh) Tryz.call66 [0,1] ?_
 refine gg (k:= ?_)
 rw[show(2*(c:Int))/2=(c:Int) by omega]
 refine aP (kh) Tryz.call66 [0,1] ?_
 refine gg (k:= ?_)
 rw[show(2*(c:Int))%2=0 by omega]
 refine gg (k:= ?_)
 refine bD (k:= ?_)
 refine aP (pz s v0 v1) Tryz.call67 [0,1] ?_
 refine gg (k:= ?_)
 rw[decide_eq_false (by omega:¬(c:Int)*(s.k:Int)<64)]
 refine⟨fun h=>absurd h (by simp),fun _=> ?_⟩
 refine gg (k:= ?_)
 refine aP (sY s false hd v0 v1) Tryz.call31 [0,1] ?_
 refine gg (k:= ?_)
 (refine ax (k:= ?_))
 conv=>whnf
 refine bh (fun i:Nat=>i≤2) (fun i=>2 - i) 2 [2,3,6,7,8,38,39,40,41,42,43,44,45,46,47,48,49,50,51,52,53,54,55,56,57,58,59] (fun i=>[(38,.val (.int .i64 (i:Int)))]) (fun i=>[(39,⟨1,.obj [.ref 0 v0 6 0 0,(if i=0 then .val (.pointer none) else .ref 80 2 3 0 0),(if i=2 then .ref 81 2 3 0 0 else .val (.pointer none))]⟩),(80,if i=0 then⟨0,.dead⟩ else⟨2,.obj [.ref 0 v0 6 0 0,.val (.int .i64 ((0:Nat):Int)),.val (.int .i64 (c:Int))]⟩),(81,if i=2 then⟨2,.obj [.ref 0 v0 6 0 0,.val (.int .i64 (c:Int)),.val (.int .i64 (c:Int))]⟩ else⟨0,.dead⟩)]) 0 (by decide) ?_ ?_ ?_
 ·exact no_implicit_lambda%ten
 ·exact no_implicit_lambda%az
 ·rintro i v i1
  refine bc (k:= ?_)
  refine gg (k:= ?_)
  refine⟨fun h=> ?_,fun h=> ?_⟩
  ·obtain rfl | rfl:i=0∨i=1:=by have:=of_decide_eq_true h;omega
   ·refine gg (k:= ?_)
    rw[show((0:Nat):Int)*(c:Int)=((0:Nat):Int) by simp]
    refine ae (Ee s 0 c g pa (by rw[gE];omega) v0 v1) Tryz.call68 (had:=⟨⟨_,rfl,(by show(0:Nat)<1;decide)⟩,trivial⟩) 2 [0,1,0,0,0,0,0,0,0,0,0,0,0,0,0,0,0,0,0,0,0,0,0,0,0,0,0,0,0,0,0,0,0,0,0,0,0,0,0,0,0,0,0,0,0,80] [0,0,0,0,0,0,0,0,0,0,0,0,0,0,0,0,0,0,0,0,0,0,0,0,0,0,0,0,0,0,0,0,0,0,0,0,0,0,0,0,0,0,0,0,0,1] [45] ?_
    refine gg (k:= ?_)
    refine aM 1 (by decide) (by show 2 - 1<2 - 0;decide) ?_ ?_
    ·exact no_implicit_lambda%ten
    ·exact no_implicit_lambda%az
   ·refine gg (k:= ?_)
    rw[show((1:Nat):Int)*(c:Int)=(c:Int) by simp]
    refine ae (Ee s c c g pb (by rw[gE];omega) v0 v1) Tryz.call68 (had:=⟨⟨_,rfl,(by show(0:Nat)<1;decide)⟩,trivial⟩) 2 [0,1,0,0,0,0,0,0,0,0,0,0,0,0,0,0,0,0,0,0,0,0,0,0,0,0,0,0,0,0,0,0,0,0,0,0,0,0,0,0,0,0,0,0,0,81] [0,0,0,0,0,0,0,0,0,0,0,0,0,0,0,0,0,0,0,0,0,0,0,0,0,0,0,0,0,0,0,0,0,0,0,0,0,0,0,0,0,0,0,0,0,1] [45] ?_
    refine gg (k:= ?_)
    refine aM 2 (by decide) (by show 2 - 2<2 - 1;decide) ?_ ?_
    ·exact no_implicit_lambda%ten
    ·exact no_implicit_lambda%az
  ·obtain rfl:i=2:=by have:=of_decide_eq_false h;omega
   have db:=n5 s c g pa pb 1 2 2 v0 v1
   have vQ:=Nt s c g (by omega) pa 1 (by decide) 1 2 2 v0 v1
   have gb:=g.vV c 1
   have FT:=FP s c g (by omega) pa pb 1 2 2 v0 v1
   have aA:=FP _ c gb (by omega) pa pb 1 2 2 v0 v1
   have hO:=FQ hd c
   refine gg (k:= ?_)
   cases hr:(s.aI c).2.2 with
   | true=>
    rw[hr] at db
    rw[hr,if_neg (by simp)] at hO
    rw[hO]
    generalize s.tidy c=T at FT⊢
    refine ae (db) Tryz.call69 5 [39,80,81,0,1] [0,0,0,0,0] [] ?_
    refine gg (k:= ?_)
    refine ae (FT) Tryz.call71 5 [39,80,81,0,1] [0,0,0,0,0] [] ?_
    (
 by_cases hT:T.1=0
 ·refine gg (k:= ?_)
  (try rw[decide_eq_true hT])
  refine gg (k:= ?_)
  exact⟨fun _=>⟨_,rfl,rfl,rfl,rfl,rfl,trivial⟩,fun h=>absurd hT h⟩
 ·refine gg (k:= ?_)
  exact fun _=>⟨_,rfl,rfl,trivial⟩)
   | false=>
    rw[hr] at db
    rw[hr,if_pos rfl] at hO
    rw[hO]
    clear hO
    generalize s.b6 0 c 1 []=B at vQ gb aA⊢
    refine ae (db) Tryz.call69 5 [39,80,81,0,1] [0,0,0,0,0] [] ?_
    refine gg (k:= ?_)
    refine ae (vQ) Tryz.call70 5 [39,80,81,0,1] [0,0,0,0,0] [] ?_
    by_cases hB:B.1=0
    ·rw[if_pos hB]
     generalize B.2.tidy c=T at aA⊢
     refine gg (k:= ?_)
     rw[decide_eq_true hB]
     refine gg (k:= ?_)
     refine ae (aA) Tryz.call71 5 [39,80,81,0,1] [0,0,0,0,0] [] ?_
     (
 by_cases hT:T.1=0
 ·refine gg (k:= ?_)
  (try rw[decide_eq_true hT])
  refine gg (k:= ?_)
  exact⟨fun _=>⟨_,rfl,rfl,rfl,rfl,rfl,trivial⟩,fun h=>absurd hT h⟩
 ·refine gg (k:= ?_)
  exact fun _ => ⟨_, rfl, rfl, trivial⟩)
    ·rw[if_neg hB]
     refine gg (k:= ?_)
     exact fun _=>⟨_,rfl,rfl,trivial⟩
end Go.Proofs.YtpbpiehcchannaaGreatDoor
namespace Go.Proofs.YtpbpiehcchannaaGreatDoor
open Go.RowKit
set_option linter.unusedVariables false
set_option linter.unusedSimpArgs false
set_option maxRecDepth 100000
set_option maxHeartbeats 1500000
theorem Ny(z z':Nat)(key val:List UInt8):Spec Tryz.prog 22 [.val (.pointer none),.bs z key,.bs z' val] [] (ak (.val (.int .i64 2)) [] []):=by
 refine aq aj Tryz.func22 rfl Tryz.ntmps22 Tryz.results22 ?_
 refine gg (k:= ?_)
 exact⟨_,rfl,rfl,trivial⟩
theorem Nz(z:Nat)(key:List UInt8):Spec Tryz.prog 64 [.val (.pointer none),.bs z key] [] (ak (.al [.val (.slice none 0 0),.val (.bool false),.val (.int .i64 2)]) [] []):=by
 refine aq aj Tryz.func64 rfl Tryz.ntmps64 Tryz.results64 ?_
 refine gg (k:= ?_)
 refine ae (vN) Tryz.call77 0 [] [] [] ?_
 refine gg (k:= ?_)
 exact⟨_,rfl,rfl,trivial⟩
theorem NA(z:Nat)(key:List UInt8):Spec Tryz.prog 25 [.val (.pointer none),.bs z key] [] (ak (.val (.int .i64 2)) [] []):=by
 refine aq aj Tryz.func25 rfl Tryz.ntmps25 Tryz.results25 ?_
 refine gg (k:= ?_)
 refine ae (vN) Tryz.call77 0 [] [] [] ?_
 refine gg (k:= ?_)
 exact⟨_,rfl,rfl,trivial⟩
theorem keys_nil:Spec Tryz.prog 72 [.val (.pointer none)] [] (ak (.al [.val (.slice none 0 0),.val (.int .i64 2)]) [] []):=by
 refine aq aj Tryz.func72 rfl Tryz.ntmps72 Tryz.results72 ?_
 refine gg (k:= ?_)
 refine ae (vN) Tryz.call77 0 [] [] [] ?_
 refine gg (k:= ?_)
 exact⟨_,rfl,rfl,trivial⟩
theorem FU:Spec Tryz.prog 79 [.agg [.val (.pointer none),.val (.slice none 0 0),.val (.slice none 0 0),.val (.int .i64 0),.val (.bool false)]] [] (ak (.val (.int .i64 0)) [] []):=by
 refine aq aj Tryz.func79 rfl Tryz.ntmps79 Tryz.results79 ?_
 refine gg (k:= ?_)
 (refine ax (k:= ?_))
 conv=>whnf
 refine bh (fun j:Nat=>j=0) (fun j=>j) 0 [3,5,9,10,11,12,13,14,15,16,17,18,19,20,21,22] (fun j=>[(3,.val (.int .i64 0)),(9,.val (.int .i64 0))]) (fun j=>[]) 0 rfl ?_ ?_ ?_
 ·exact no_implicit_lambda%ten
 ·exact no_implicit_lambda%az
 ·rintro j v rfl
  refine bc (k:= ?_)
  refine gg (k:= ?_)
  exact⟨_,rfl,rfl,trivial⟩
theorem NB:Spec Tryz.prog 74 [.val (.pointer none)] [] (ak (.al [.val (.int .i64 0),.val (.int .i64 2)]) [] []):=by
 refine aq aj Tryz.func74 rfl Tryz.ntmps74 Tryz.results74 ?_
 refine gg (k:= ?_)
 refine ae (vN) Tryz.call77 0 [] [] [] ?_
 refine gg (k:= ?_)
 refine ae (FU) Tryz.call79 0 [] [] [] ?_
 refine gg (k:= ?_)
 exact⟨_,rfl,rfl,trivial⟩
end Go.Proofs.YtpbpiehcchannaaGreatDoor
