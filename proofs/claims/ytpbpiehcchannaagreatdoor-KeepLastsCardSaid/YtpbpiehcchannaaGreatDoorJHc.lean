/- Walks of nvram: begin. Walks of nvram: Room, copy. Walks of nvram: tidy. Conditions: the premises of each law. -/
import Derived.Test.YtpbpiehcchannaaGreatDoorJHo
namespace Go.Proofs.YtpbpiehcchannaaGreatDoor
set_option linter.unusedVariables false
set_option linter.unusedSimpArgs false
set_option maxRecDepth 100000
set_option maxHeartbeats 1500000
open Go.RowKit
theorem HE {W : Int} {n k : Nat} (s : U) (a c : Nat) (g : aw W n k s) (hW : W ≤ 9000000000000000000) (p : aA n k a c) (ps : List (List UInt8)) (key val : List UInt8) (i j kn vn : Nat) (hi : ps[i]? = some key) (hj : ps[j]? = some val) (dH : kn = key.length) (vz : vn = val.length) (bH : key.length ≤ 140737488355328) (dS : val.length ≤ 140737488355328) (vb v0 v1 v2 : Nat) : Spec Tryz.prog 81 [.ref 0 vb 3 0 0, .pl 3 v2 i 0 kn, .pl 3 v2 j 0 vn] [⟨vb, .obj [.ref 1 v0 6 0 0, .val (.int .i64 (a : Int)), .val (.int .i64 (c : Int))]⟩, ⟨v0, .obj [.own 2 v1 1 0 s.l.length, .val (.int .i64 (s.k : Int)), .val (.int .i64 s.ar), .val (.int .i64 s.pt), .val (.bool s.dd), .val (.int .i64 s.wr)]⟩, ⟨v1, .bytes s.l⟩, ⟨v2, .az ps⟩]
   (ak (.val (.int .i64 (s.add a c key val).1)) [⟨vb,.obj [.ref 1 v0 6 0 0,.val (.int .i64 (a:Int)),.val (.int .i64 (c:Int))]⟩,⟨v0,.obj [.own 2 v1 1 0 (s.add a c key val).2.l.length,.val (.int .i64 ((s.add a c key val).2.k:Int)),.val (.int .i64 (s.add a c key val).2.ar),.val (.int .i64 (s.add a c key val).2.pt),.val (.bool (s.add a c key val).2.dd),.val (.int .i64 (s.add a c key val).2.wr)]⟩,⟨v1,.bytes (s.add a c key val).2.l⟩,⟨v2,.az ps⟩] []):=by
 subst dH vz
 have e:=whole key
 have e':=whole val
 have h:=n9 (mC s a c g hW p ((key.drop 0).take key.length) ((val.drop 0).take val.length) (by rw[e];exact bH) (by rw[e'];exact dS) 0 0 vb v0 v1) (R:=[⟨v2,.az ps⟩]) (args:=[.ref 0 vb 3 0 0,.pl 3 v2 i 0 key.length,.pl 3 v2 j 0 val.length])
  trivial ⟨⟨trivial,trivial,trivial,trivial⟩,⟨trivial,trivial,trivial,trivial,trivial,trivial,trivial⟩,trivial,trivial⟩ ⟨⟨(by decide:1<3),trivial,trivial,trivial⟩,⟨(by decide:2<3),trivial,trivial,trivial,trivial,trivial,trivial⟩,trivial,trivial⟩ ⟨⟨trivial,trivial,trivial,trivial⟩,⟨trivial,trivial,trivial,trivial,trivial,trivial,trivial⟩,trivial,trivial⟩ rfl trivial trivial
  (fO (mq trivial (by decide:0<3)) (fO (GF (q:=0) (l:=key) rfl hi (by omega)) (fO (GF (q:=0) (l:=val) rfl hj (by omega)) mo)))
 rw[e,e'] at h
 exact h
theorem CM(a c:Nat)(r:RK):∀(l:List RK)(s:U),(s.bV a c l).1=0→s.bV a c (l++[r])=(s.bV a c l).2.add a c r.key r.val
 | [],s,_=>by
  show(if(s.add a c r.key r.val).1=0 then(0,(s.add a c r.key r.val).2) else s.add a c r.key r.val)=s.add a c r.key r.val
  split
  ·rename_i h;rw[←h]
  ·rfl
 | x::l,s,h=>by
  rw[U.bV] at h
  rw[List.cons_append,U.bV,U.bV]
  split at h
  ·rename_i h0
   rw[if_pos h0,if_pos h0]
   exact CM a c r l _ h
  ·rename_i h0;exact absurd h h0
theorem CN(a c:Nat)(m:List RK):∀(l:List RK)(s:U),(s.bV a c l).1≠0→s.bV a c (l++m)=s.bV a c l
 | [],s,h=>absurd rfl h
 | x::l,s,h=>by
  rw[U.bV] at h
  rw[List.cons_append,U.bV,U.bV]
  split at h
  ·rename_i h0
   rw[if_pos h0,if_pos h0]
   exact CN a c m l _ h
  ·rename_i h0;rw[if_neg h0,if_neg h0]
theorem aw.bV{n k:Nat}(a c:Nat):∀(l:List RK){B:Int}{s:U},aw B n k s→aw (B+l.length*65804) n k (s.bV a c l).2
 | [],B,s,h=>h.mono (by simp)
 | x::l,B,s,h=>by
  rw[U.bV]
  split
  ·exact(aw.bV a c l (h.add a c x.key x.val)).mono (by simp only[List.length_cons];omega)
  ·exact(h.add a c x.key x.val).mono (by simp only[List.length_cons];omega)
theorem OT {W : Int} {n k : Nat} (s : U) (c : Nat) (g : aw W n k s) (hW : W ≤ 1000000000000000000) (pa : aA n k 0 c) (pb : aA n k c c) (gen : Int) (qP : 0 ≤ gen ∧ gen ≤ 4294967295) {rs : List Rr} {ps : List (List UInt8)} {la : List RK} (h : cJ rs ps la) (hb : ∀ r ∈ la, r.key.length ≤ 140737488355328 ∧ r.val.length ≤ 140737488355328) (hl : la.length ≤ 4194304) (vs va vb v0 v1 vr vw N : Nat) (hN : N = rs.length) : Spec Tryz.prog 70 [.ref 0 vs 3 0 0, .ref 1 va 3 0 0, .val (.int .u32 gen), .own 5 vr 3 0 N] [⟨vs, .obj [.ref 3 v0 6 0 0, .ref 1 va 3 0 0, .ref 2 vb 3 0 0]⟩, ⟨va, .obj [.ref 3 v0 6 0 0, .val (.int .i64 ((0 : Nat) : Int)), .val (.int .i64 (c : Int))]⟩, ⟨vb, .obj [.ref 3 v0 6 0 0, .val (.int .i64 (c : Int)), .val (.int .i64 (c : Int))]⟩, ⟨v0, .obj [.own 4 v1 1 0 s.l.length, .val (.int .i64 (s.k : Int)), .val (.int .i64 s.ar), .val (.int .i64 s.pt), .val (.bool s.dd), .val (.int .i64 s.wr)]⟩, ⟨v1, .bytes s.l⟩, ⟨vr, .row 3 (b7 6 vw) ⟨0, 0, 0, false⟩ rs⟩, ⟨vw, .az ps⟩]
   (ak (.val (.int .i64 (s.cB 0 c gen la).1)) [⟨vs,.obj [.ref 3 v0 6 0 0,.ref 1 va 3 0 0,.ref 2 vb 3 0 0]⟩,⟨va,.obj [.ref 3 v0 6 0 0,.val (.int .i64 ((0:Nat):Int)),.val (.int .i64 (c:Int))]⟩,⟨vb,.obj [.ref 3 v0 6 0 0,.val (.int .i64 (c:Int)),.val (.int .i64 (c:Int))]⟩,⟨v0,.obj [.own 4 v1 1 0 (s.cB 0 c gen la).2.l.length,.val (.int .i64 ((s.cB 0 c gen la).2.k:Int)),.val (.int .i64 (s.cB 0 c gen la).2.ar),.val (.int .i64 (s.cB 0 c gen la).2.pt),.val (.bool (s.cB 0 c gen la).2.dd),.val (.int .i64 (s.cB 0 c gen la).2.wr)]⟩,⟨v1,.bytes (s.cB 0 c gen la).2.l⟩,⟨vr,.row 3 (b7 6 vw) ⟨0,0,0,false⟩ rs⟩,⟨vw,.az ps⟩] []):=by
 subst hN
 have hlen:=h.len
 have hf:=Cq s 0 c g (by omega) pa gen qP va v0 v1
 have gf:=g.format 0 c gen
 have vM:c≤4194304:=pa.ac.2
 refine ax ai Tryz.func70 rfl Tryz.ntmps70 Tryz.results70 ?_
 unfold U.cB
 generalize s.format 0 c gen=F at hf gf⊢
 obtain⟨f,t⟩:=F
 simp only at hf gf⊢
 refine gg ?_
 refine af (hf) Tryz.call113 3 [1,3,4] [0,0,0] [] ?_
 by_cases h0:f=0
 ·subst h0
  rw[if_pos rfl]
  refine gg ?_
  (refine aH ?_)
  conv=>whnf
  refine cE (fun j:Nat=>j≤la.length∧(t.bV 0 c (la.take j)).1=0) (fun j=>la.length - j) 7 [8,11,12,21,22,23,24,25,26,27,28,29,30,31,32,33,34] (fun j=>[(21,.val (.int .i64 (j:Int)))]) (fun j=>[(3,⟨v0,.obj [.own 4 v1 1 0 (t.bV 0 c (la.take j)).2.l.length,.val (.int .i64 ((t.bV 0 c (la.take j)).2.k:Int)),.val (.int .i64 (t.bV 0 c (la.take j)).2.ar),.val (.int .i64 (t.bV 0 c (la.take j)).2.pt),.val (.bool (t.bV 0 c (la.take j)).2.dd),.val (.int .i64 (t.bV 0 c (la.take j)).2.wr)]⟩),(4,⟨v1,.bytes (t.bV 0 c (la.take j)).2.l⟩)]) 0 ⟨Nat.zero_le _,rfl⟩ ?_ ?_ ?_
  ·exact no_implicit_lambda%ten
  ·exact no_implicit_lambda%b6
  ·rintro j v ⟨j1,j2⟩
   have gj:=gf.bV 0 c (la.take j)
   have lr:(la.take j).length=j:=by rw[List.length_take];omega
   rw[lr] at gj
   refine cF ?_
   refine gg ?_
   refine⟨fun h'=> ?_,fun h'=> ?_⟩
   ·have ah:j<la.length:=by have:=of_decide_eq_true h';omega
    have gU:j<rs.length:=by omega
    obtain⟨y1,y2,y3,y4,y5⟩:=h.el j _ _ (List.getElem?_eq_getElem gU) (List.getElem?_eq_getElem ah)
    have hg:rs.getD j ⟨0,0,0,false⟩=rs[j]:=by rw[List.getD_eq_getElem?_getD,List.getElem?_eq_getElem gU];rfl
    obtain⟨eT,vN⟩:=hb _ (List.getElem_mem ah)
    have hT:la.take (j+1)=la.take j++[la[j]]:=List.take_succ_eq_append_getElem ah
    have hA:=CM 0 c la[j] (la.take j) t j2
    rw[←hT] at hA
    have hS:=CN 0 c (la.drop (j+1)) (la.take (j+1)) t
    rw[List.take_append_drop] at hS
    generalize la[j]=y at y1 y2 y3 y4 y5 eT vN hA
    generalize rs[j]=x at hg y1 y2 y3 y4 y5
    refine gg ?_
    simp only[Int.toNat_natCast,Nat.zero_add]
    try ((conv=>whnf);(refine And.intro ⟨rfl,⟨rfl,gU⟩,Nat.le_of_ble_eq_true rfl⟩ ?_))
    rw[hg]
    refine gg ?_
    refine af (HE (t.bV 0 c (la.take j)).2 0 c gj (by omega) pa ps y.key y.val x.i (x.i+1) x.kn x.vn y1 y3 y2 y4 eT vN va v0 v1 vw) Tryz.call81 4 [1,3,4,6] [0,0,0,0] [] ?_
    rw[←hA]
    by_cases hz:(t.bV 0 c (la.take (j+1))).1=0
    ·refine gg ?_
     rw[decide_eq_true hz]
     refine gg ?_
     exact bk (j+1) ⟨ah,hz⟩ (by show la.length - (j+1)<la.length - j;omega)
    ·refine gg ?_
     rw[hS hz,if_neg hz]
     exact⟨_,rfl,rfl,trivial⟩
   ·obtain rfl:j=la.length:=by have:=of_decide_eq_false h';omega
    refine gg ?_
    refine af (Cn (t.bV 0 c (la.take la.length)).2 0 c gj (by omega) pa va v0 v1) Tryz.call114 3 [1,3,4] [0,0,0] [] ?_
    refine gg ?_
    rw[List.take_length] at j2⊢
    rw[if_pos j2]
    exact⟨_,rfl,rfl,trivial⟩
 ·rw[if_neg h0]
  have Bc:decide (f=0)=false:=decide_eq_false h0
  refine gg ?_
  exact⟨_,rfl,rfl,trivial⟩
theorem OU {W : Int} {n k : Nat} (s : U) (c : Nat) (g : aw W n k s) (hW : W ≤ 1000000000000000000) (pa : aA n k 0 c) (pb : aA n k c c) (gen : Int) (qP : 0 ≤ gen ∧ gen ≤ 4294967295) {rs : List Rr} {ps : List (List UInt8)} {la : List RK} (h : cJ rs ps la) (hb : ∀ r ∈ la, r.key.length ≤ 140737488355328 ∧ r.val.length ≤ 140737488355328) (hl : la.length ≤ 4194304) (vs va vb v0 v1 vr vw N : Nat) (hN : N = rs.length) : Spec Tryz.prog 70 [.ref 0 vs 3 0 0, .ref 2 vb 3 0 0, .val (.int .u32 gen), .own 5 vr 3 0 N] [⟨vs, .obj [.ref 3 v0 6 0 0, .ref 1 va 3 0 0, .ref 2 vb 3 0 0]⟩, ⟨va, .obj [.ref 3 v0 6 0 0, .val (.int .i64 ((0 : Nat) : Int)), .val (.int .i64 (c : Int))]⟩, ⟨vb, .obj [.ref 3 v0 6 0 0, .val (.int .i64 (c : Int)), .val (.int .i64 (c : Int))]⟩, ⟨v0, .obj [.own 4 v1 1 0 s.l.length, .val (.int .i64 (s.k : Int)), .val (.int .i64 s.ar), .val (.int .i64 s.pt), .val (.bool s.dd), .val (.int .i64 s.wr)]⟩, ⟨v1, .bytes s.l⟩, ⟨vr, .row 3 (b7 6 vw) ⟨0, 0, 0, false⟩ rs⟩, ⟨vw, .az ps⟩]
   (ak (.val (.int .i64 (s.cB c c gen la).1)) [⟨vs,.obj [.ref 3 v0 6 0 0,.ref 1 va 3 0 0,.ref 2 vb 3 0 0]⟩,⟨va,.obj [.ref 3 v0 6 0 0,.val (.int .i64 ((0:Nat):Int)),.val (.int .i64 (c:Int))]⟩,⟨vb,.obj [.ref 3 v0 6 0 0,.val (.int .i64 (c:Int)),.val (.int .i64 (c:Int))]⟩,⟨v0,.obj [.own 4 v1 1 0 (s.cB c c gen la).2.l.length,.val (.int .i64 ((s.cB c c gen la).2.k:Int)),.val (.int .i64 (s.cB c c gen la).2.ar),.val (.int .i64 (s.cB c c gen la).2.pt),.val (.bool (s.cB c c gen la).2.dd),.val (.int .i64 (s.cB c c gen la).2.wr)]⟩,⟨v1,.bytes (s.cB c c gen la).2.l⟩,⟨vr,.row 3 (b7 6 vw) ⟨0,0,0,false⟩ rs⟩,⟨vw,.az ps⟩] []):=by
 subst hN
 have hlen:=h.len
 have hf:=Cq s c c g (by omega) pb gen qP vb v0 v1
 have gf:=g.format c c gen
 have vM:c≤4194304:=pa.ac.2
 refine ax ai Tryz.func70 rfl Tryz.ntmps70 Tryz.results70 ?_
 unfold U.cB
 generalize s.format c c gen=F at hf gf⊢
 obtain⟨f,t⟩:=F
 simp only at hf gf⊢
 refine gg ?_
 refine af (hf) Tryz.call113 3 [2,3,4] [0,0,0] [] ?_
 by_cases h0:f=0
 ·subst h0
  rw[if_pos rfl]
  refine gg ?_
  (refine aH ?_)
  conv=>whnf
  refine cE (fun j:Nat=>j≤la.length∧(t.bV c c (la.take j)).1=0) (fun j=>la.length - j) 7 [8,11,12,21,22,23,24,25,26,27,28,29,30,31,32,33,34] (fun j=>[(21,.val (.int .i64 (j:Int)))]) (fun j=>[(3,⟨v0,.obj [.own 4 v1 1 0 (t.bV c c (la.take j)).2.l.length,.val (.int .i64 ((t.bV c c (la.take j)).2.k:Int)),.val (.int .i64 (t.bV c c (la.take j)).2.ar),.val (.int .i64 (t.bV c c (la.take j)).2.pt),.val (.bool (t.bV c c (la.take j)).2.dd),.val (.int .i64 (t.bV c c (la.take j)).2.wr)]⟩),(4,⟨v1,.bytes (t.bV c c (la.take j)).2.l⟩)]) 0 ⟨Nat.zero_le _,rfl⟩ ?_ ?_ ?_
  ·exact no_implicit_lambda%ten
  ·exact no_implicit_lambda%b6
  ·rintro j v ⟨j1,j2⟩
   have gj:=gf.bV c c (la.take j)
   have lr:(la.take j).length=j:=by rw[List.length_take];omega
   rw[lr] at gj
   refine cF ?_
   refine gg ?_
   refine⟨fun h'=> ?_,fun h'=> ?_⟩
   ·have ah:j<la.length:=by have:=of_decide_eq_true h';omega
    have gU:j<rs.length:=by omega
    obtain⟨y1,y2,y3,y4,y5⟩:=h.el j _ _ (List.getElem?_eq_getElem gU) (List.getElem?_eq_getElem ah)
    have hg:rs.getD j ⟨0,0,0,false⟩=rs[j]:=by rw[List.getD_eq_getElem?_getD,List.getElem?_eq_getElem gU];rfl
    obtain⟨eT,vN⟩:=hb _ (List.getElem_mem ah)
    have hT:la.take (j+1)=la.take j++[la[j]]:=List.take_succ_eq_append_getElem ah
    have hA:=CM c c la[j] (la.take j) t j2
    rw[←hT] at hA
    have hS:=CN c c (la.drop (j+1)) (la.take (j+1)) t
    rw[List.take_append_drop] at hS
    generalize la[j]=y at y1 y2 y3 y4 y5 eT vN hA
    generalize rs[j]=x at hg y1 y2 y3 y4 y5
    refine gg ?_
    simp only[Int.toNat_natCast,Nat.zero_add]
    try ((conv=>whnf);(refine And.intro ⟨rfl,⟨rfl,gU⟩,Nat.le_of_ble_eq_true rfl⟩ ?_))
    rw[hg]
    refine gg ?_
    refine af (HE (t.bV c c (la.take j)).2 c c gj (by omega) pb ps y.key y.val x.i (x.i+1) x.kn x.vn y1 y3 y2 y4 eT vN vb v0 v1 vw) Tryz.call81 4 [2,3,4,6] [0,0,0,0] [] ?_
    rw[←hA]
    by_cases hz:(t.bV c c (la.take (j+1))).1=0
    ·refine gg ?_
     rw[decide_eq_true hz]
     refine gg ?_
     exact bk (j+1) ⟨ah,hz⟩ (by show la.length - (j+1)<la.length - j;omega)
    ·refine gg ?_
     rw[hS hz,if_neg hz]
     exact⟨_,rfl,rfl,trivial⟩
   ·obtain rfl:j=la.length:=by have:=of_decide_eq_false h';omega
    refine gg ?_
    refine af (Cn (t.bV c c (la.take la.length)).2 c c gj (by omega) pb vb v0 v1) Tryz.call114 3 [2,3,4] [0,0,0] [] ?_
    refine gg ?_
    rw[List.take_length] at j2⊢
    rw[if_pos j2]
    exact⟨_,rfl,rfl,trivial⟩
 ·rw[if_neg h0]
  have Bc:decide (f=0)=false:=decide_eq_false h0
  refine gg ?_
  exact⟨_,rfl,rfl,trivial⟩
theorem vO{W:Int}{n k:Nat}(s:U)(c:Nat)(g:aw W n k s)(pa:aA n k 0 c)(vs va vb v0 v1:Nat):Spec Tryz.prog 27 [.ref 0 vs 3 0 0] [⟨vs,.obj [.ref 3 v0 6 0 0,.ref 1 va 3 0 0,.ref 2 vb 3 0 0]⟩,⟨va,.obj [.ref 3 v0 6 0 0,.val (.int .i64 ((0:Nat):Int)),.val (.int .i64 (c:Int))]⟩,⟨vb,.obj [.ref 3 v0 6 0 0,.val (.int .i64 (c:Int)),.val (.int .i64 (c:Int))]⟩,⟨v0,.obj [.own 4 v1 1 0 s.l.length,.val (.int .i64 (s.k:Int)),.val (.int .i64 s.ar),.val (.int .i64 s.pt),.val (.bool s.dd),.val (.int .i64 s.wr)]⟩,⟨v1,.bytes s.l⟩] (ak (.val (.int .i64 ((c:Int)*s.k - 16))) [⟨vs,.obj [.ref 3 v0 6 0 0,.ref 1 va 3 0 0,.ref 2 vb 3 0 0]⟩,⟨va,.obj [.ref 3 v0 6 0 0,.val (.int .i64 ((0:Nat):Int)),.val (.int .i64 (c:Int))]⟩,⟨vb,.obj [.ref 3 v0 6 0 0,.val (.int .i64 (c:Int)),.val (.int .i64 (c:Int))]⟩,⟨v0,.obj [.own 4 v1 1 0 s.l.length,.val (.int .i64 (s.k:Int)),.val (.int .i64 s.ar),.val (.int .i64 s.pt),.val (.bool s.dd),.val (.int .i64 s.wr)]⟩,⟨v1,.bytes s.l⟩] []):=by
 refine ax ai Tryz.func27 rfl Tryz.ntmps27 Tryz.results27 ?_
 refine gg ?_
 refine aY (Oc s 0 c (g.lP pa) va v0 v1) Tryz.call85 [1,3,4] ?_
 refine gg ?_
 exact⟨_,rfl,rfl,trivial⟩
theorem HF(s:U)(a:Nat):0≤(s.head a).1∧(s.head a).1≤4294967295:=by
 unfold U.head
 split
 ·exact⟨by simp,by simp⟩
 split
 ·have:=pd ((((s.l.drop (a*s.k)).take 16).drop 4).take 4)
  have hl:((((s.l.drop (a*s.k)).take 16).drop 4).take 4).length≤4:=by rw[List.length_take];omega
  have h2:256^((((s.l.drop (a*s.k)).take 16).drop 4).take 4).length≤256^4:=Nat.pow_le_pow_right (by decide) hl
  simp only
  omega
 ·exact⟨by simp,by simp⟩
theorem HG(s:U)(c:Nat):0≤(s.a8 c).2.1∧(s.a8 c).2.1≤4294967295:=by
 unfold U.a8
 split
 ·exact HF s c
 ·exact HF s 0
theorem HH {W : Int} {n k : Nat} (s : U) (c : Nat) (g : aw W n k s) (hW : W ≤ 1000000000000000000) (pa : aA n k 0 c) (pb : aA n k c c) (hi : (s.a8 c).1 = 0) {rs : List Rr} {ps : List (List UInt8)} {la : List RK} (h : cJ rs ps la) (hb : ∀ r ∈ la, r.key.length ≤ 140737488355328 ∧ r.val.length ≤ 140737488355328) (hl : la.length ≤ 4194304) (l : List Rc) (e : Int) (b : Bool) (vs va vb v0 v1 vr vw vq N : Nat) (hN : N = rs.length) : Spec Tryz.prog 80 [.ref 0 vs 3 0 0, .agg [.ref 1 va 3 0 0, .own 7 vq 3 0 l.length, .own 5 vr 3 0 N, .val (.int .i64 e), .val (.bool b)]] [⟨vs, .obj [.ref 3 v0 6 0 0, .ref 1 va 3 0 0, .ref 2 vb 3 0 0]⟩, ⟨va, .obj [.ref 3 v0 6 0 0, .val (.int .i64 ((0 : Nat) : Int)), .val (.int .i64 (c : Int))]⟩, ⟨vb, .obj [.ref 3 v0 6 0 0, .val (.int .i64 (c : Int)), .val (.int .i64 (c : Int))]⟩, ⟨v0, .obj [.own 4 v1 1 0 s.l.length, .val (.int .i64 (s.k : Int)), .val (.int .i64 s.ar), .val (.int .i64 s.pt), .val (.bool s.dd), .val (.int .i64 s.wr)]⟩, ⟨v1, .bytes s.l⟩, ⟨vr, .row 3 (b7 6 vw) ⟨0, 0, 0, false⟩ rs⟩, ⟨vw, .az ps⟩, ⟨vq, .row 3 (b7 6 vw) ⟨0, 0, 0, false⟩ (bX 0 l)⟩]
   (ak (.val (.int .i64 (s.copy c la).1)) [⟨vs,.obj [.ref 3 v0 6 0 0,.ref 1 va 3 0 0,.ref 2 vb 3 0 0]⟩,⟨va,.obj [.ref 3 v0 6 0 0,.val (.int .i64 ((0:Nat):Int)),.val (.int .i64 (c:Int))]⟩,⟨vb,.obj [.ref 3 v0 6 0 0,.val (.int .i64 (c:Int)),.val (.int .i64 (c:Int))]⟩,⟨v0,.obj [.own 4 v1 1 0 (s.copy c la).2.l.length,.val (.int .i64 ((s.copy c la).2.k:Int)),.val (.int .i64 (s.copy c la).2.ar),.val (.int .i64 (s.copy c la).2.pt),.val (.bool (s.copy c la).2.dd),.val (.int .i64 (s.copy c la).2.wr)]⟩,⟨v1,.bytes (s.copy c la).2.l⟩,⟨vr,.row 3 (b7 6 vw) ⟨0,0,0,false⟩ rs⟩,⟨vw,.az ps⟩,⟨vq,.row 3 (b7 6 vw) ⟨0,0,0,false⟩ (bX 0 l)⟩] []):=by
 have dE:=pF s c g pa pb vs va vb v0 v1
 have CO:=HG s c
 have CP:=fun gen hg=>OU s c g hW pa pb gen hg h hb hl vs va vb v0 v1 vr vw N hN
 unfold U.copy
 rw[hi] at dE⊢
 rw[show(1 - 0)*c=c by omega]
 generalize (s.a8 c).2.1=gen at dE CO⊢
 refine ax ai Tryz.func80 rfl Tryz.ntmps80 Tryz.results80 ?_
 refine gg ?_
 refine af (dE) Tryz.call69 5 [0,1,2,3,4] [0,0,0,0,0] [] ?_
 by_cases fu:gen=4294967295
 ·subst fu
  rw[if_pos rfl]
  refine gg ?_
  exact⟨_,rfl,rfl,trivial⟩
 ·rw[if_neg fu]
  have hd:decide (gen=4294967295)=false:=decide_eq_false fu
  refine gg ?_
  (refine aH ?_)
  refine bL (p:=8) ai hm [0,0,0,4,2,18,62,126,0,256,0,1024,4095,8191] [⟨0,false,false,[]⟩,⟨1,false,false,[]⟩,⟨2,false,false,[]⟩,⟨3,false,false,[]⟩,⟨4,true,false,[16,18,19,21,22,23,24,25,26,27,28,4]⟩,⟨5,true,false,[16,18,19,22,23,24,25,26,27,28,4]⟩,⟨6,true,false,[16,23,24,25,26,27,28,4]⟩,⟨7,true,false,[16,24,25,26,27,28,4]⟩,⟨8,false,false,[]⟩,⟨9,false,false,[]⟩,⟨10,true,false,[16,17,18,19,20,21,22,23,24,25,27,28,4]⟩,⟨11,true,false,[16,17,18,19,20,21,22,23,24,25,28,4]⟩,⟨12,true,true,[4]⟩,⟨13,false,false,[]⟩] (by kernel_rfl) ?_
  refine gg ?_
  rw[show(gen+1)%4294967296=gen+1 by omega]
  refine af (CP (gen+1) (by omega)) Tryz.call70 (hrows:=⟨⟨⟨(by show 3<7;decide),(by show 1<7;decide),(by show 2<7;decide),trivial⟩,rfl⟩,⟨⟨(by show 3<7;decide),trivial,trivial,trivial⟩,rfl⟩,⟨⟨(by show 3<7;decide),trivial,trivial,trivial⟩,rfl⟩,⟨⟨(by show 4<7;decide),trivial,trivial,trivial,trivial,trivial,trivial⟩,rfl⟩,⟨trivial,rfl⟩,⟨fun _=>⟨(by show 6<7;decide),(by show 6<7;decide),trivial,trivial⟩,rfl⟩,⟨trivial,rfl⟩,trivial⟩) (hr2:=⟨⟨rfl,rfl,rfl,trivial⟩,⟨rfl,trivial,trivial,trivial⟩,⟨rfl,trivial,trivial,trivial⟩,⟨rfl,trivial,trivial,trivial,trivial,trivial,trivial⟩,trivial,fun _=>⟨rfl,rfl,trivial,trivial⟩,trivial,trivial⟩) 7 [0,1,2,3,4,5,6] [0,0,0,0,0,0,0] [] ?_
  refine gg ?_
  conv=>whnf
  refine And.intro ⟨.inr (fun h=>nomatch h),.inr (fun h=>nomatch h),.inr (fun h=>nomatch h),.inr (fun h=>nomatch h),.inr (fun h=>nomatch h),.inr (fun h=>nomatch h),.inr (fun h=>nomatch h),trivial⟩ ?_
  refine gg ?_
  exact⟨_,rfl,rfl,trivial⟩
theorem HI {W : Int} {n k : Nat} (s : U) (c : Nat) (g : aw W n k s) (hW : W ≤ 1000000000000000000) (pa : aA n k 0 c) (pb : aA n k c c) (hi : (s.a8 c).1 = 1) {rs : List Rr} {ps : List (List UInt8)} {la : List RK} (h : cJ rs ps la) (hb : ∀ r ∈ la, r.key.length ≤ 140737488355328 ∧ r.val.length ≤ 140737488355328) (hl : la.length ≤ 4194304) (l : List Rc) (e : Int) (b : Bool) (vs va vb v0 v1 vr vw vq N : Nat) (hN : N = rs.length) : Spec Tryz.prog 80 [.ref 0 vs 3 0 0, .agg [.ref 2 vb 3 0 0, .own 7 vq 3 0 l.length, .own 5 vr 3 0 N, .val (.int .i64 e), .val (.bool b)]] [⟨vs, .obj [.ref 3 v0 6 0 0, .ref 1 va 3 0 0, .ref 2 vb 3 0 0]⟩, ⟨va, .obj [.ref 3 v0 6 0 0, .val (.int .i64 ((0 : Nat) : Int)), .val (.int .i64 (c : Int))]⟩, ⟨vb, .obj [.ref 3 v0 6 0 0, .val (.int .i64 (c : Int)), .val (.int .i64 (c : Int))]⟩, ⟨v0, .obj [.own 4 v1 1 0 s.l.length, .val (.int .i64 (s.k : Int)), .val (.int .i64 s.ar), .val (.int .i64 s.pt), .val (.bool s.dd), .val (.int .i64 s.wr)]⟩, ⟨v1, .bytes s.l⟩, ⟨vr, .row 3 (b7 6 vw) ⟨0, 0, 0, false⟩ rs⟩, ⟨vw, .az ps⟩, ⟨vq, .row 3 (b7 6 vw) ⟨0, 0, 0, false⟩ (bX 0 l)⟩]
   (ak (.val (.int .i64 (s.copy c la).1)) [⟨vs,.obj [.ref 3 v0 6 0 0,.ref 1 va 3 0 0,.ref 2 vb 3 0 0]⟩,⟨va,.obj [.ref 3 v0 6 0 0,.val (.int .i64 ((0:Nat):Int)),.val (.int .i64 (c:Int))]⟩,⟨vb,.obj [.ref 3 v0 6 0 0,.val (.int .i64 (c:Int)),.val (.int .i64 (c:Int))]⟩,⟨v0,.obj [.own 4 v1 1 0 (s.copy c la).2.l.length,.val (.int .i64 ((s.copy c la).2.k:Int)),.val (.int .i64 (s.copy c la).2.ar),.val (.int .i64 (s.copy c la).2.pt),.val (.bool (s.copy c la).2.dd),.val (.int .i64 (s.copy c la).2.wr)]⟩,⟨v1,.bytes (s.copy c la).2.l⟩,⟨vr,.row 3 (b7 6 vw) ⟨0,0,0,false⟩ rs⟩,⟨vw,.az ps⟩,⟨vq,.row 3 (b7 6 vw) ⟨0,0,0,false⟩ (bX 0 l)⟩] []):=by
 have dE:=pF s c g pa pb vs va vb v0 v1
 have CO:=HG s c
 have CP:=fun gen hg=>OT s c g hW pa pb gen hg h hb hl vs va vb v0 v1 vr vw N hN
 unfold U.copy
 rw[hi] at dE⊢
 rw[show(1 - 1)*c=0 by omega]
 generalize (s.a8 c).2.1=gen at dE CO⊢
 refine ax ai Tryz.func80 rfl Tryz.ntmps80 Tryz.results80 ?_
 refine gg ?_
 refine af (dE) Tryz.call69 5 [0,1,2,3,4] [0,0,0,0,0] [] ?_
 by_cases fu:gen=4294967295
 ·subst fu
  rw[if_pos rfl]
  refine gg ?_
  exact⟨_,rfl,rfl,trivial⟩
 ·rw[if_neg fu]
  have hd:decide (gen=4294967295)=false:=decide_eq_false fu
  refine gg ?_
  (refine aH ?_)
  refine bL (p:=8) ai hm [0,0,0,4,2,18,62,126,0,256,0,1024,4095,8191] [⟨0,false,false,[]⟩,⟨1,false,false,[]⟩,⟨2,false,false,[]⟩,⟨3,false,false,[]⟩,⟨4,true,false,[16,18,19,21,22,23,24,25,26,27,28,4]⟩,⟨5,true,false,[16,18,19,22,23,24,25,26,27,28,4]⟩,⟨6,true,false,[16,23,24,25,26,27,28,4]⟩,⟨7,true,false,[16,24,25,26,27,28,4]⟩,⟨8,false,false,[]⟩,⟨9,false,false,[]⟩,⟨10,true,false,[16,17,18,19,20,21,22,23,24,25,27,28,4]⟩,⟨11,true,false,[16,17,18,19,20,21,22,23,24,25,28,4]⟩,⟨12,true,true,[4]⟩,⟨13,false,false,[]⟩] (by kernel_rfl) ?_
  refine gg ?_
  rw[show(gen+1)%4294967296=gen+1 by omega]
  refine af (CP (gen+1) (by omega)) Tryz.call70 (hrows:=⟨⟨⟨(by show 3<7;decide),(by show 1<7;decide),(by show 2<7;decide),trivial⟩,rfl⟩,⟨⟨(by show 3<7;decide),trivial,trivial,trivial⟩,rfl⟩,⟨⟨(by show 3<7;decide),trivial,trivial,trivial⟩,rfl⟩,⟨⟨(by show 4<7;decide),trivial,trivial,trivial,trivial,trivial,trivial⟩,rfl⟩,⟨trivial,rfl⟩,⟨fun _=>⟨(by show 6<7;decide),(by show 6<7;decide),trivial,trivial⟩,rfl⟩,⟨trivial,rfl⟩,trivial⟩) (hr2:=⟨⟨rfl,rfl,rfl,trivial⟩,⟨rfl,trivial,trivial,trivial⟩,⟨rfl,trivial,trivial,trivial⟩,⟨rfl,trivial,trivial,trivial,trivial,trivial,trivial⟩,trivial,fun _=>⟨rfl,rfl,trivial,trivial⟩,trivial,trivial⟩) 7 [0,1,2,3,4,5,6] [0,0,0,0,0,0,0] [] ?_
  refine gg ?_
  conv=>whnf
  refine And.intro ⟨.inr (fun h=>nomatch h),.inr (fun h=>nomatch h),.inr (fun h=>nomatch h),.inr (fun h=>nomatch h),.inr (fun h=>nomatch h),.inr (fun h=>nomatch h),.inr (fun h=>nomatch h),trivial⟩ ?_
  refine gg ?_
  exact⟨_,rfl,rfl,trivial⟩
structure TS where
 k:Nat
 s:U
theorem OV {W : Int} {n k : Nat} (s : U) (c : Nat) (g : aw W n k s) (hW : W ≤ 1000000000000000000) (pa : aA n k 0 c) (pb : aA n k c c) (hd : s.dd = false) (hi : (s.a8 c).1 = 0) (vs va vb v0 v1 : Nat) : Spec Tryz.prog 71 [.ref 0 vs 3 0 0] [⟨vs, .obj [.ref 3 v0 6 0 0, .ref 1 va 3 0 0, .ref 2 vb 3 0 0]⟩, ⟨va, .obj [.ref 3 v0 6 0 0, .val (.int .i64 ((0 : Nat) : Int)), .val (.int .i64 (c : Int))]⟩, ⟨vb, .obj [.ref 3 v0 6 0 0, .val (.int .i64 (c : Int)), .val (.int .i64 (c : Int))]⟩, ⟨v0, .obj [.own 4 v1 1 0 s.l.length, .val (.int .i64 (s.k : Int)), .val (.int .i64 s.ar), .val (.int .i64 s.pt), .val (.bool s.dd), .val (.int .i64 s.wr)]⟩, ⟨v1, .bytes s.l⟩]
   (ak (.val (.int .i64 (s.tidy c).1)) [⟨vs,.obj [.ref 3 v0 6 0 0,.ref 1 va 3 0 0,.ref 2 vb 3 0 0]⟩,⟨va,.obj [.ref 3 v0 6 0 0,.val (.int .i64 ((0:Nat):Int)),.val (.int .i64 (c:Int))]⟩,⟨vb,.obj [.ref 3 v0 6 0 0,.val (.int .i64 (c:Int)),.val (.int .i64 (c:Int))]⟩,⟨v0,.obj [.own 4 v1 1 0 (s.tidy c).2.l.length,.val (.int .i64 ((s.tidy c).2.k:Int)),.val (.int .i64 (s.tidy c).2.ar),.val (.int .i64 (s.tidy c).2.pt),.val (.bool (s.tidy c).2.dd),.val (.int .i64 (s.tidy c).2.wr)]⟩,⟨v1,.bytes (s.tidy c).2.l⟩] []):=by
 have dE:=pF s c g pa pb vs va vb v0 v1
 rw[hi] at dE
 obtain⟨l,e,b,hS⟩:∃l e b,s.scan 0 c=(l,e,b):=⟨_,_,_,rfl⟩
 have hT:s.tidy c=s.eG 0 c (l.map aj) 0 l.length:=by
  unfold U.tidy U.bw U.fg
  rw[hd,hi,if_neg (by simp),show 0*c=0 by omega,hS,List.length_map]
 rw[hT]
 have jF:=yg s 0 c g pa hd l.length (by rw[hS]) va v0 v1
 rw[hS] at jF
 have cG:=fI g pa hS
 have k7:=jH g pa hS
 clear hT hS
 generalize CQ:s.eG 0 c (l.map aj) 0 l.length=T0
 refine ax ai Tryz.func71 rfl Tryz.ntmps71 Tryz.results71 ?_
 refine gg ?_
 refine af (dE) Tryz.call69 5 [0,1,2,3,4] [0,0,0,0,0] [] ?_
 refine gg ?_
 refine af (jF) Tryz.call115 (he:=⟨fun _=>⟨rfl,rfl,trivial,trivial⟩,trivial,trivial⟩) 3 [1,3,4,0,0,0,0,0,0,0,0,0,0,32,33] [0,0,0,0,0,0,0,0,0,0,0,0,0,1,1] [13,14] ?_
 refine gg ?_
 (refine aH ?_)
 conv=>whnf
 refine cE (fun y:TS=>y.k≤l.length∧y.s.eG 0 c (l.map aj) y.k (l.length - y.k)=T0∧aw (W+y.k) n k y.s) (fun y=>l.length - y.k) 5 [2,10,11,12,36,37,38,39,40,41,42,43,44,45,46,47,48,49,50,51,52,53,54,55,56,57,58,59,60,61,62] (fun y=>[(36,.val (.int .i64 (y.k:Int)))]) (fun y=>[(3,⟨v0,.obj [.own 4 v1 1 0 y.s.l.length,.val (.int .i64 (y.s.k:Int)),.val (.int .i64 y.s.ar),.val (.int .i64 y.s.pt),.val (.bool y.s.dd),.val (.int .i64 y.s.wr)]⟩),(4,⟨v1,.bytes y.s.l⟩)]) ⟨0,s⟩ ⟨Nat.zero_le _,CQ,by simpa using g⟩ ?_ ?_ ?_
 ·exact no_implicit_lambda%ten
 ·exact no_implicit_lambda%b6
 ·rintro⟨j,t⟩ v ⟨j1,j2,j3⟩
  simp only at j1 j2 j3
  refine cF ?_
  refine gg ?_
  refine⟨fun h'=> ?_,fun h'=> ?_⟩
  ·have ah:j<l.length:=by have:=of_decide_eq_true h';omega
   obtain⟨d,lG⟩:∃d,l[j]? =some d:=⟨l[j],List.getElem?_eq_getElem ah⟩
   obtain⟨p0,p1⟩:=sV l j d lG
   have hr:(bX 0 l).getD j ⟨0,0,0,false⟩=⟨2*j,d.key.length,d.val.length,d.lv⟩:=by rw[List.getD_eq_getElem?_getD,qW l 0 j d lG,Nat.zero_add];rfl
   have k8:(l.map aj).getD j bG=aj d:=by rw[List.getD_eq_getElem?_getD,List.getElem?_map,lG];rfl
   have gP:(bX 0 l).length=l.length:=di l 0
   rw[show l.length - j=(l.length - (j+1))+1 by omega,U.eG,k8] at j2
   refine gg ?_
   simp only[Int.toNat_natCast,Nat.zero_add]
   try ((conv=>whnf);(refine And.intro ⟨rfl,⟨rfl,by rw[gP];exact ah⟩,Nat.le_of_ble_eq_true rfl⟩ ?_))
   rw[hr]
   obtain⟨dk,dv,dl,da⟩:=d
   cases dl with
   | false=>
    rw[if_neg (fun q=>by cases q.1)] at j2
    refine gg ?_
    intro _
    refine gg ?_
    exact bk ⟨j+1,t⟩ ⟨ah,j2,j3.mono (by simp only;omega)⟩ (by show l.length - (j+1)<l.length - j;omega)
   | true=>
    refine gg ?_
    refine af (CR (cJ.of l) cG p0 l.length dk.length (l.length+2+1) 3 (di l 0).symm rfl) Tryz.call82 (hrows:=⟨⟨fun _=>⟨Nat.lt_succ_self 1,Nat.lt_succ_self 1,trivial,trivial⟩,rfl⟩,⟨trivial,rfl⟩,trivial⟩) (hr2:=⟨fun _=>⟨rfl,rfl,trivial,trivial⟩,trivial,trivial⟩) 2 [32,33] [0,0] [] ?_
    by_cases hq:aT (l.map aj) dk=(j:Int)
    ·rw[if_neg (fun q=>q.2 hq)] at j2
     refine gg ?_
     rw[decide_eq_true hq]
     refine gg ?_
     exact bk ⟨j+1,t⟩ ⟨ah,j2,j3.mono (by simp only;omega)⟩ (by show l.length - (j+1)<l.length - j;omega)
    ·rw[if_pos ⟨rfl,hq⟩] at j2
     have vP:=kD t 0 c j3 (by omega) pa (j:Int) (by unfold aX;omega) va v0 v1
     have gk:=j3.kill 0 c (j:Int)
     generalize t.kill 0 c (j:Int)=T at j2 vP gk
     refine gg ?_
     rw[decide_eq_false hq]
     refine gg ?_
     refine af (vP) Tryz.call83 3 [1,3,4] [0,0,0] [] ?_
     by_cases hz:T.1=0
     ·rw[if_pos hz] at j2
      refine gg ?_
      rw[decide_eq_true hz]
      refine gg ?_
      exact bk ⟨j+1,T.2⟩ ⟨ah,j2,gk.mono (by simp only;omega)⟩ (by show l.length - (j+1)<l.length - j;omega)
     ·rw[if_neg hz] at j2
      subst j2
      refine gg ?_
      exact⟨_,rfl,rfl,trivial⟩
  ·obtain rfl:j=l.length:=by have:=of_decide_eq_false h';omega
   rw[Nat.sub_self,U.eG] at j2
   subst j2
   refine gg ?_
   exact⟨_,rfl,rfl,trivial⟩
theorem OW {W : Int} {n k : Nat} (s : U) (c : Nat) (g : aw W n k s) (hW : W ≤ 1000000000000000000) (pa : aA n k 0 c) (pb : aA n k c c) (hd : s.dd = false) (hi : (s.a8 c).1 = 1) (vs va vb v0 v1 : Nat) : Spec Tryz.prog 71 [.ref 0 vs 3 0 0] [⟨vs, .obj [.ref 3 v0 6 0 0, .ref 1 va 3 0 0, .ref 2 vb 3 0 0]⟩, ⟨va, .obj [.ref 3 v0 6 0 0, .val (.int .i64 ((0 : Nat) : Int)), .val (.int .i64 (c : Int))]⟩, ⟨vb, .obj [.ref 3 v0 6 0 0, .val (.int .i64 (c : Int)), .val (.int .i64 (c : Int))]⟩, ⟨v0, .obj [.own 4 v1 1 0 s.l.length, .val (.int .i64 (s.k : Int)), .val (.int .i64 s.ar), .val (.int .i64 s.pt), .val (.bool s.dd), .val (.int .i64 s.wr)]⟩, ⟨v1, .bytes s.l⟩]
   (ak (.val (.int .i64 (s.tidy c).1)) [⟨vs,.obj [.ref 3 v0 6 0 0,.ref 1 va 3 0 0,.ref 2 vb 3 0 0]⟩,⟨va,.obj [.ref 3 v0 6 0 0,.val (.int .i64 ((0:Nat):Int)),.val (.int .i64 (c:Int))]⟩,⟨vb,.obj [.ref 3 v0 6 0 0,.val (.int .i64 (c:Int)),.val (.int .i64 (c:Int))]⟩,⟨v0,.obj [.own 4 v1 1 0 (s.tidy c).2.l.length,.val (.int .i64 ((s.tidy c).2.k:Int)),.val (.int .i64 (s.tidy c).2.ar),.val (.int .i64 (s.tidy c).2.pt),.val (.bool (s.tidy c).2.dd),.val (.int .i64 (s.tidy c).2.wr)]⟩,⟨v1,.bytes (s.tidy c).2.l⟩] []):=by
 have dE:=pF s c g pa pb vs va vb v0 v1
 rw[hi] at dE
 obtain⟨l,e,b,hS⟩:∃l e b,s.scan c c=(l,e,b):=⟨_,_,_,rfl⟩
 have hT:s.tidy c=s.eG c c (l.map aj) 0 l.length:=by
  unfold U.tidy U.bw U.fg
  rw[hd,hi,if_neg (by simp),show 1*c=c by omega,hS,List.length_map]
 rw[hT]
 have jF:=yg s c c g pb hd l.length (by rw[hS]) vb v0 v1
 rw[hS] at jF
 have cG:=fI g pb hS
 have k7:=jH g pb hS
 clear hT hS
 generalize CQ:s.eG c c (l.map aj) 0 l.length=T0
 refine ax ai Tryz.func71 rfl Tryz.ntmps71 Tryz.results71 ?_
 refine gg ?_
 refine af (dE) Tryz.call69 5 [0,1,2,3,4] [0,0,0,0,0] [] ?_
 refine gg ?_
 refine af (jF) Tryz.call115 (he:=⟨fun _=>⟨rfl,rfl,trivial,trivial⟩,trivial,trivial⟩) 3 [2,3,4,0,0,0,0,0,0,0,0,0,0,32,33] [0,0,0,0,0,0,0,0,0,0,0,0,0,1,1] [13,14] ?_
 refine gg ?_
 (refine aH ?_)
 conv=>whnf
 refine cE (fun y:TS=>y.k≤l.length∧y.s.eG c c (l.map aj) y.k (l.length - y.k)=T0∧aw (W+y.k) n k y.s) (fun y=>l.length - y.k) 5 [2,10,11,12,36,37,38,39,40,41,42,43,44,45,46,47,48,49,50,51,52,53,54,55,56,57,58,59,60,61,62] (fun y=>[(36,.val (.int .i64 (y.k:Int)))]) (fun y=>[(3,⟨v0,.obj [.own 4 v1 1 0 y.s.l.length,.val (.int .i64 (y.s.k:Int)),.val (.int .i64 y.s.ar),.val (.int .i64 y.s.pt),.val (.bool y.s.dd),.val (.int .i64 y.s.wr)]⟩),(4,⟨v1,.bytes y.s.l⟩)]) ⟨0,s⟩ ⟨Nat.zero_le _,CQ,by simpa using g⟩ ?_ ?_ ?_
 ·exact no_implicit_lambda%ten
 ·exact no_implicit_lambda%b6
 ·rintro⟨j,t⟩ v ⟨j1,j2,j3⟩
  simp only at j1 j2 j3
  refine cF ?_
  refine gg ?_
  refine⟨fun h'=> ?_,fun h'=> ?_⟩
  ·have ah:j<l.length:=by have:=of_decide_eq_true h';omega
   obtain⟨d,lG⟩:∃d,l[j]? =some d:=⟨l[j],List.getElem?_eq_getElem ah⟩
   obtain⟨p0,p1⟩:=sV l j d lG
   have hr:(bX 0 l).getD j ⟨0,0,0,false⟩=⟨2*j,d.key.length,d.val.length,d.lv⟩:=by rw[List.getD_eq_getElem?_getD,qW l 0 j d lG,Nat.zero_add];rfl
   have k8:(l.map aj).getD j bG=aj d:=by rw[List.getD_eq_getElem?_getD,List.getElem?_map,lG];rfl
   have gP:(bX 0 l).length=l.length:=di l 0
   rw[show l.length - j=(l.length - (j+1))+1 by omega,U.eG,k8] at j2
   refine gg ?_
   simp only[Int.toNat_natCast,Nat.zero_add]
   try ((conv=>whnf);(refine And.intro ⟨rfl,⟨rfl,by rw[gP];exact ah⟩,Nat.le_of_ble_eq_true rfl⟩ ?_))
   rw[hr]
   obtain⟨dk,dv,dl,da⟩:=d
   cases dl with
   | false=>
    rw[if_neg (fun q=>by cases q.1)] at j2
    refine gg ?_
    intro _
    refine gg ?_
    exact bk ⟨j+1,t⟩ ⟨ah,j2,j3.mono (by simp only;omega)⟩ (by show l.length - (j+1)<l.length - j;omega)
   | true=>
    refine gg ?_
    refine af (CR (cJ.of l) cG p0 l.length dk.length (l.length+2+1) 3 (di l 0).symm rfl) Tryz.call82 (hrows:=⟨⟨fun _=>⟨Nat.lt_succ_self 1,Nat.lt_succ_self 1,trivial,trivial⟩,rfl⟩,⟨trivial,rfl⟩,trivial⟩) (hr2:=⟨fun _=>⟨rfl,rfl,trivial,trivial⟩,trivial,trivial⟩) 2 [32,33] [0,0] [] ?_
    by_cases hq:aT (l.map aj) dk=(j:Int)
    ·rw[if_neg (fun q=>q.2 hq)] at j2
     refine gg ?_
     rw[decide_eq_true hq]
     refine gg ?_
     exact bk ⟨j+1,t⟩ ⟨ah,j2,j3.mono (by simp only;omega)⟩ (by show l.length - (j+1)<l.length - j;omega)
    ·rw[if_pos ⟨rfl,hq⟩] at j2
     have vP:=kD t c c j3 (by omega) pb (j:Int) (by unfold aX;omega) vb v0 v1
     have gk:=j3.kill c c (j:Int)
     generalize t.kill c c (j:Int)=T at j2 vP gk
     refine gg ?_
     rw[decide_eq_false hq]
     refine gg ?_
     refine af (vP) Tryz.call83 3 [2,3,4] [0,0,0] [] ?_
     by_cases hz:T.1=0
     ·rw[if_pos hz] at j2
      refine gg ?_
      rw[decide_eq_true hz]
      refine gg ?_
      exact bk ⟨j+1,T.2⟩ ⟨ah,j2,gk.mono (by simp only;omega)⟩ (by show l.length - (j+1)<l.length - j;omega)
     ·rw[if_neg hz] at j2
      subst j2
      refine gg ?_
      exact⟨_,rfl,rfl,trivial⟩
  ·obtain rfl:j=l.length:=by have:=of_decide_eq_false h';omega
   rw[Nat.sub_self,U.eG] at j2
   subst j2
   refine gg ?_
   exact⟨_,rfl,rfl,trivial⟩
theorem HJ{s:U}(hd:s.dd=true)(a:Nat):s.head a=(0,false,6):=by
 unfold U.head
 rw[hd,if_pos rfl]
theorem OX{s:U}(hd:s.dd=true)(c:Nat):s.a8 c=(0,0,false):=by
 unfold U.a8
 rw[HJ hd,HJ hd]
 rfl
theorem OY {W : Int} {n k : Nat} (s : U) (c : Nat) (g : aw W n k s) (pa : aA n k 0 c) (pb : aA n k c c) (hd : s.dd = true) (vs va vb v0 v1 : Nat) : Spec Tryz.prog 71 [.ref 0 vs 3 0 0] [⟨vs, .obj [.ref 3 v0 6 0 0, .ref 1 va 3 0 0, .ref 2 vb 3 0 0]⟩, ⟨va, .obj [.ref 3 v0 6 0 0, .val (.int .i64 ((0 : Nat) : Int)), .val (.int .i64 (c : Int))]⟩, ⟨vb, .obj [.ref 3 v0 6 0 0, .val (.int .i64 (c : Int)), .val (.int .i64 (c : Int))]⟩, ⟨v0, .obj [.own 4 v1 1 0 s.l.length, .val (.int .i64 (s.k : Int)), .val (.int .i64 s.ar), .val (.int .i64 s.pt), .val (.bool s.dd), .val (.int .i64 s.wr)]⟩, ⟨v1, .bytes s.l⟩]
   (ak (.val (.int .i64 6)) [⟨vs,.obj [.ref 3 v0 6 0 0,.ref 1 va 3 0 0,.ref 2 vb 3 0 0]⟩,⟨va,.obj [.ref 3 v0 6 0 0,.val (.int .i64 ((0:Nat):Int)),.val (.int .i64 (c:Int))]⟩,⟨vb,.obj [.ref 3 v0 6 0 0,.val (.int .i64 (c:Int)),.val (.int .i64 (c:Int))]⟩,⟨v0,.obj [.own 4 v1 1 0 s.l.length,.val (.int .i64 (s.k:Int)),.val (.int .i64 s.ar),.val (.int .i64 s.pt),.val (.bool s.dd),.val (.int .i64 s.wr)]⟩,⟨v1,.bytes s.l⟩] []):=by
 have dE:=pF s c g pa pb vs va vb v0 v1
 rw[OX hd] at dE
 refine ax ai Tryz.func71 rfl Tryz.ntmps71 Tryz.results71 ?_
 refine gg ?_
 refine af (dE) Tryz.call69 5 [0,1,2,3,4] [0,0,0,0,0] [] ?_
 refine gg ?_
 refine af (Ou s 0 c g pa hd va v0 v1) Tryz.call115 3 [1,3,4] [0,0,0] [] ?_
 refine gg ?_
 exact⟨_,rfl,rfl,trivial⟩
end Go.Proofs.YtpbpiehcchannaaGreatDoor
