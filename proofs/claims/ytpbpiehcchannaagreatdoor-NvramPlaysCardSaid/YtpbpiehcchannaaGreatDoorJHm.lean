/- Walks of lintellaw09: does, on a store. Walks of lintellaw09: does: a store opened again, and its keys. Conditions: the premises of each law. -/
import Derived.Test.YtpbpiehcchannaaGreatDoorJNka
namespace Go.Proofs.YtpbpiehcchannaaGreatDoor
open Go.RowKit
set_option linter.unusedVariables false
set_option linter.unusedSimpArgs false
set_option maxRecDepth 100000
set_option maxHeartbeats 1500000
theorem LH {W : Int} {n k : Nat} (s : J) (c : Nat) (g : av W n k s) (hW : W ≤ 1000000000000000) (pa : aC n k 0 c) (pb : aC n k c c) (hd : s.dd = false) (key val : List UInt8) (vn : Nat) (j8 : vn = val.length) (cE : key.length ≤ 140737488355328) (dp : val.length ≤ 140737488355328) (vs va vb v0 v1 v3 : Nat) : Spec Tryz.prog 22 [.ref 0 vs 3 0 0, .bs 0 key, .own 5 v3 1 0 vn] [⟨vs, .obj [.ref 3 v0 6 0 0, .ref 1 va 3 0 0, .ref 2 vb 3 0 0]⟩, ⟨va, .obj [.ref 3 v0 6 0 0, .val (.int .i64 ((0 : Nat) : Int)), .val (.int .i64 (c : Int))]⟩, ⟨vb, .obj [.ref 3 v0 6 0 0, .val (.int .i64 (c : Int)), .val (.int .i64 (c : Int))]⟩, ⟨v0, .obj [.own 4 v1 1 0 s.l.length, .val (.int .i64 (s.k : Int)), .val (.int .i64 s.ar), .val (.int .i64 s.pt), .val (.bool s.dd), .val (.int .i64 s.wr)]⟩, ⟨v1, .bytes s.l⟩, ⟨v3, .bytes val⟩]
   (ak (.val (.int .i64 (s.set c key val).1)) [⟨vs,.obj [.ref 3 v0 6 0 0,.ref 1 va 3 0 0,.ref 2 vb 3 0 0]⟩,⟨va,.obj [.ref 3 v0 6 0 0,.val (.int .i64 ((0:Nat):Int)),.val (.int .i64 (c:Int))]⟩,⟨vb,.obj [.ref 3 v0 6 0 0,.val (.int .i64 (c:Int)),.val (.int .i64 (c:Int))]⟩,⟨v0,.obj [.own 4 v1 1 0 (s.set c key val).2.l.length,.val (.int .i64 ((s.set c key val).2.k:Int)),.val (.int .i64 (s.set c key val).2.ar),.val (.int .i64 (s.set c key val).2.pt),.val (.bool (s.set c key val).2.dd),.val (.int .i64 (s.set c key val).2.wr)]⟩,⟨v1,.bytes (s.set c key val).2.l⟩,⟨v3,.bytes val⟩] []):=by
 subst j8
 have e':=whole val
 have h:=oX (EH s c g hW pa pb hd 0 0 key ((val.drop 0).take val.length) cE (by rw[e'];exact dp) vs va vb v0 v1) (R:=[⟨v3,.bytes val⟩]) (args:=[.ref 0 vs 3 0 0,.bs 0 key,.own 5 v3 1 0 val.length])
  trivial ⟨⟨trivial,trivial,trivial,trivial⟩,⟨trivial,trivial,trivial,trivial⟩,⟨trivial,trivial,trivial,trivial⟩,⟨trivial,trivial,trivial,trivial,trivial,trivial,trivial⟩,trivial,trivial⟩ ⟨⟨(by decide:3<5),(by decide:1<5),(by decide:2<5),trivial⟩,⟨(by decide:3<5),trivial,trivial,trivial⟩,⟨(by decide:3<5),trivial,trivial,trivial⟩,⟨(by decide:4<5),trivial,trivial,trivial,trivial,trivial,trivial⟩,trivial,trivial⟩ ⟨⟨trivial,trivial,trivial,trivial⟩,⟨trivial,trivial,trivial,trivial⟩,⟨trivial,trivial,trivial,trivial⟩,⟨trivial,trivial,trivial,trivial,trivial,trivial,trivial⟩,trivial,trivial⟩ rfl trivial trivial
  (gx (mL trivial (by decide:0<5)) (gx (Jh) (gx (o0 (q:=0) (l:=val) rfl (by omega)) oY)))
 rw[e'] at h
 exact h
theorem zP:Spec Tryz.prog 23 [.val (.slice none 0 0)] [] (ak (.bs 0 []) [] []):=
 br (X:= .own 3 2 1 0 0) (rows:=[]) (rows':=[]) (mk:=[(3,⟨2,.bytes []⟩)]) (jY (ek 0 [] (by decide)) trivial ⟨trivial,trivial⟩ (rows:=[]) (args:=[.val (.slice none 0 0)]) (du I7 fT)) (by simp[ef]) (AF.own rfl rfl) trivial
theorem EI(v i n:Nat)(ls:List (List UInt8))(x:List UInt8)(hx:ls[i]? =some x)(hn:n=x.length)(hb:x.length≤140737488355328):Spec Tryz.prog 23 [.pl 0 v i 0 n] [⟨v,.aB ls⟩] (ak (.bs 0 x) [⟨v,.aB ls⟩] []):=by
 subst hn
 have h:=jY (ek 0 ((x.drop 0).take x.length) (by rw[whole];exact hb)) trivial ⟨trivial,trivial⟩ (rows:=[⟨v,.aB ls⟩]) (args:=[.pl 0 v i 0 x.length]) (du (vk rfl hx (by omega)) fT)
 rw[whole] at h
 exact br h (by simp[ef,oS]) (AF.own rfl rfl) ⟨rfl,BF.same,trivial⟩
theorem LI {W : Int} {n k : Nat} (s : J) (c : Nat) {M : List RK} (m : LK s c M) (g : av W n k s) (pa : aC n k 0 c) (pb : aC n k c c) (r : RK) (hr : r ∈ M) (z : Nat) (vs va vb v0 v1 : Nat) : ∃ (ps : List (List UInt8)) (q : Nat), ps[q]? = some r.val ∧ Spec Tryz.prog 64 [.ref 0 vs 3 0 0, .bs z r.key] [⟨vs, .obj [.ref 3 v0 6 0 0, .ref 1 va 3 0 0, .ref 2 vb 3 0 0]⟩, ⟨va, .obj [.ref 3 v0 6 0 0, .val (.int .i64 ((0 : Nat) : Int)), .val (.int .i64 (c : Int))]⟩, ⟨vb, .obj [.ref 3 v0 6 0 0, .val (.int .i64 (c : Int)), .val (.int .i64 (c : Int))]⟩, ⟨v0, .obj [.own 4 v1 1 0 s.l.length, .val (.int .i64 (s.k : Int)), .val (.int .i64 s.ar), .val (.int .i64 s.pt), .val (.bool s.dd), .val (.int .i64 s.wr)]⟩, ⟨v1, .bytes s.l⟩]
   (ak (.al [.pl 21 4 q 0 r.val.length,.val (.bool true),.val (.int .i64 0)]) [⟨vs,.obj [.ref 3 v0 6 0 0,.ref 1 va 3 0 0,.ref 2 vb 3 0 0]⟩,⟨va,.obj [.ref 3 v0 6 0 0,.val (.int .i64 ((0:Nat):Int)),.val (.int .i64 (c:Int))]⟩,⟨vb,.obj [.ref 3 v0 6 0 0,.val (.int .i64 (c:Int)),.val (.int .i64 (c:Int))]⟩,⟨v0,.obj [.own 4 v1 1 0 s.l.length,.val (.int .i64 (s.k:Int)),.val (.int .i64 s.ar),.val (.int .i64 s.pt),.val (.bool s.dd),.val (.int .i64 s.wr)]⟩,⟨v1,.bytes s.l⟩] [(21,⟨4,.aB ps⟩)]):=by
 obtain⟨i,l,e,b,hi,aS,hS,_,lL⟩:=m.look
 obtain⟨j,d,hj,hk,hv⟩:=lL r hr
 have hp:=(pg l j d hj).2
 rw[hv] at hp
 refine⟨cV l,2*j+1,hp,?_⟩
 rcases hi with rfl | rfl
 ·simp only[Nat.zero_mul] at hS
  have:=EJ s c g pa pb m.live aS hS z r.key j d hj hk vs va vb v0 v1
  rw[hv] at this
  exact this
 ·simp only[Nat.one_mul] at hS
  have:=EK s c g pa pb m.live aS hS z r.key j d hj hk vs va vb v0 v1
  rw[hv] at this
  exact this
theorem LJ {W : Int} {n k : Nat} (s : J) (c : Nat) {M : List RK} (m : LK s c M) (g : av W n k s) (pa : aC n k 0 c) (pb : aC n k c c) (key : List UInt8) (hr : ∀ r ∈ M, r.key ≠ key) (z : Nat) (vs va vb v0 v1 : Nat) : Spec Tryz.prog 64 [.ref 0 vs 3 0 0, .bs z key] [⟨vs, .obj [.ref 3 v0 6 0 0, .ref 1 va 3 0 0, .ref 2 vb 3 0 0]⟩, ⟨va, .obj [.ref 3 v0 6 0 0, .val (.int .i64 ((0 : Nat) : Int)), .val (.int .i64 (c : Int))]⟩, ⟨vb, .obj [.ref 3 v0 6 0 0, .val (.int .i64 (c : Int)), .val (.int .i64 (c : Int))]⟩, ⟨v0, .obj [.own 4 v1 1 0 s.l.length, .val (.int .i64 (s.k : Int)), .val (.int .i64 s.ar), .val (.int .i64 s.pt), .val (.bool s.dd), .val (.int .i64 s.wr)]⟩, ⟨v1, .bytes s.l⟩]
   (ak (.al [.val (.slice none 0 0),.val (.bool false),.val (.int .i64 0)]) [⟨vs,.obj [.ref 3 v0 6 0 0,.ref 1 va 3 0 0,.ref 2 vb 3 0 0]⟩,⟨va,.obj [.ref 3 v0 6 0 0,.val (.int .i64 ((0:Nat):Int)),.val (.int .i64 (c:Int))]⟩,⟨vb,.obj [.ref 3 v0 6 0 0,.val (.int .i64 (c:Int)),.val (.int .i64 (c:Int))]⟩,⟨v0,.obj [.own 4 v1 1 0 s.l.length,.val (.int .i64 (s.k:Int)),.val (.int .i64 s.ar),.val (.int .i64 s.pt),.val (.bool s.dd),.val (.int .i64 s.wr)]⟩,⟨v1,.bytes s.l⟩] []):=by
 obtain⟨i,l,e,b,hi,aS,hS,l6,_⟩:=m.look
 rcases hi with rfl | rfl
 ·simp only[Nat.zero_mul] at hS
  exact LL s c g pa pb m.live aS hS z key (l6 key hr) vs va vb v0 v1
 ·simp only[Nat.one_mul] at hS
  exact LM s c g pa pb m.live aS hS z key (l6 key hr) vs va vb v0 v1
theorem fF(a:List UInt8)(n:Nat)(hn:n=a.length)(hb:a.length≤140737488355328)(v z:Nat):Spec Tryz.prog 19 [.own 0 v 1 0 n,.bs z a] [⟨v,.bytes a⟩] (ak (.val (.bool true)) [⟨v,.bytes a⟩] []):=by
 subst hn
 have h:=jY (eh 0 0 ((a.drop 0).take a.length) a (by rw[whole];exact hb)) trivial trivial (rows:=[⟨v,.bytes a⟩]) (args:=[.own 0 v 1 0 a.length,.bs z a]) (du (kC rfl (by omega)) (du qE fT))
 rw[whole,decide_eq_true (rfl:a=a)] at h
 exact h
theorem LN{W:Int}{n k:Nat}(s:J)(c:Nat)(g:av W n k s)(hW:W≤1000000000000000)(pa:aC n k 0 c)(pb:aC n k c c)(hd:s.dd=false)(o:dg)(ho:fE o)(hK:o.K=2)(vs va vb v0 v1:Nat):Spec Tryz.prog 28 [.ref 3 v0 6 0 0,.ref 0 vs 3 0 0,.agg (aN 0 o)] [⟨vs,.obj [.ref 3 v0 6 0 0,.ref 1 va 3 0 0,.ref 2 vb 3 0 0]⟩,⟨va,.obj [.ref 3 v0 6 0 0,.val (.int .i64 ((0:Nat):Int)),.val (.int .i64 (c:Int))]⟩,⟨vb,.obj [.ref 3 v0 6 0 0,.val (.int .i64 (c:Int)),.val (.int .i64 (c:Int))]⟩,⟨v0,.obj [.own 4 v1 1 0 s.l.length,.val (.int .i64 (s.k:Int)),.val (.int .i64 s.ar),.val (.int .i64 s.pt),.val (.bool s.dd),.val (.int .i64 s.wr)]⟩,⟨v1,.bytes s.l⟩] (ak (.al [.agg [.val (.slice none 0 0),.val (.slice none 0 0),.val (.int .i64 0),.val (.bool false),.val (.int .i64 (s.set c o.key o.val).1)],.ref 0 vs 3 0 0,.val (.bool true)]) [⟨vs,.obj [.ref 3 v0 6 0 0,.ref 1 va 3 0 0,.ref 2 vb 3 0 0]⟩,⟨va,.obj [.ref 3 v0 6 0 0,.val (.int .i64 ((0:Nat):Int)),.val (.int .i64 (c:Int))]⟩,⟨vb,.obj [.ref 3 v0 6 0 0,.val (.int .i64 (c:Int)),.val (.int .i64 (c:Int))]⟩,⟨v0,.obj [.own 4 v1 1 0 (s.set c o.key o.val).2.l.length,.val (.int .i64 ((s.set c o.key o.val).2.k:Int)),.val (.int .i64 (s.set c o.key o.val).2.ar),.val (.int .i64 (s.set c o.key o.val).2.pt),.val (.bool (s.set c o.key o.val).2.dd),.val (.int .i64 (s.set c o.key o.val).2.wr)]⟩,⟨v1,.bytes (s.set c o.key o.val).2.l⟩] []):=by
 (
 obtain⟨K,m,q,key,val⟩:=o
 have hk:=ho.key
 have hv:=ho.val
 simp only at hk hv hK
 subst hK
 refine aq aj Tryz.func28 rfl Tryz.ntmps28 Tryz.results28 ?_
 unfold aN
 simp only
 refine gg (k:= ?_)
 refine ae (fc 0 key hk) Tryz.call23 0 [] [] [] ?_
 refine gg (k:= ?_)
 refine ae (ek 0 val hv) Tryz.call23 0 [0,0,0,34] [0,0,0,1] [3] ?_
 refine gg (k:= ?_))
 refine ae (LH s c g hW pa pb hd key val val.length rfl hk hv vs va vb v0 v1 3) Tryz.call22 6 [0,1,2,3,4,34] [0,0,0,0,0,0] [] ?_
 refine gg (k:= ?_)
 (
 refine ae (eh 0 0 key key hk) Tryz.call19 0 [] [] [] ?_
 rw[decide_eq_true (rfl:key=key)]
 refine gg (k:= ?_)
 refine ae (fF val val.length rfl hv 3 0) Tryz.call19 1 [34] [0] [] ?_
 refine gg (k:= ?_)
 (refine ax (k:= ?_))
 conv=>whnf
 refine bh (fun y:Nat×List UInt8=>y.1≤val.length∧y.2.length=val.length) (fun y=>val.length - y.1) 5 [23,153,154,155,156,157,158,159,160,161] (fun y=>[(23,.val (.int .i64 (y.1:Int)))]) (fun y=>[(34,⟨3,.bytes y.2⟩)]) (0,val) ⟨Nat.zero_le _,rfl⟩ ?_ ?_ ?_
 ·exact no_implicit_lambda%ten
 ·exact no_implicit_lambda%az
 ·rintro⟨i,w⟩ u ⟨u1,u2⟩
  simp only at u1 u2
  refine bc (k:= ?_)
  refine gg (k:= ?_)
  refine⟨fun h=> ?_,fun h=> ?_⟩
  ·have ai:i<val.length:=by have:=of_decide_eq_true h;omega
   refine gg (k:= ?_)
   refine aM (i+1,w.set (0+(i:Int).toNat) (UInt8.ofNat (Int.toNat 85))) ⟨ai,by simp[u2]⟩ (by show val.length - (i+1)<val.length - i;omega) ?_ ?_
   ·exact no_implicit_lambda%ten
   ·exact no_implicit_lambda%az
  ·refine gg (k:= ?_)
   exact⟨_,rfl,rfl,trivial⟩)
theorem LO{W:Int}{n k:Nat}(s:J)(c:Nat)(g:av W n k s)(hW:W≤1000000000000000)(pa:aC n k 0 c)(pb:aC n k c c)(o:dg)(ho:fE o)(hK:o.K=3)(vs va vb v0 v1:Nat):Spec Tryz.prog 28 [.ref 3 v0 6 0 0,.ref 0 vs 3 0 0,.agg (aN 0 o)] [⟨vs,.obj [.ref 3 v0 6 0 0,.ref 1 va 3 0 0,.ref 2 vb 3 0 0]⟩,⟨va,.obj [.ref 3 v0 6 0 0,.val (.int .i64 ((0:Nat):Int)),.val (.int .i64 (c:Int))]⟩,⟨vb,.obj [.ref 3 v0 6 0 0,.val (.int .i64 (c:Int)),.val (.int .i64 (c:Int))]⟩,⟨v0,.obj [.own 4 v1 1 0 s.l.length,.val (.int .i64 (s.k:Int)),.val (.int .i64 s.ar),.val (.int .i64 s.pt),.val (.bool s.dd),.val (.int .i64 s.wr)]⟩,⟨v1,.bytes s.l⟩] (ak (.al [.agg [.val (.slice none 0 0),.val (.slice none 0 0),.val (.int .i64 0),.val (.bool false),.val (.int .i64 (s.del c o.key).1)],.ref 0 vs 3 0 0,.val (.bool true)]) [⟨vs,.obj [.ref 3 v0 6 0 0,.ref 1 va 3 0 0,.ref 2 vb 3 0 0]⟩,⟨va,.obj [.ref 3 v0 6 0 0,.val (.int .i64 ((0:Nat):Int)),.val (.int .i64 (c:Int))]⟩,⟨vb,.obj [.ref 3 v0 6 0 0,.val (.int .i64 (c:Int)),.val (.int .i64 (c:Int))]⟩,⟨v0,.obj [.own 4 v1 1 0 (s.del c o.key).2.l.length,.val (.int .i64 ((s.del c o.key).2.k:Int)),.val (.int .i64 (s.del c o.key).2.ar),.val (.int .i64 (s.del c o.key).2.pt),.val (.bool (s.del c o.key).2.dd),.val (.int .i64 (s.del c o.key).2.wr)]⟩,⟨v1,.bytes (s.del c o.key).2.l⟩] []):=by
 (
 obtain⟨K,m,q,key,val⟩:=o
 have hk:=ho.key
 have hv:=ho.val
 simp only at hk hv hK
 subst hK
 refine aq aj Tryz.func28 rfl Tryz.ntmps28 Tryz.results28 ?_
 unfold aN
 simp only
 refine gg (k:= ?_)
 refine ae (fc 0 key hk) Tryz.call23 0 [] [] [] ?_
 refine gg (k:= ?_)
 refine ae (ek 0 val hv) Tryz.call23 0 [0,0,0,34] [0,0,0,1] [3] ?_
 refine gg (k:= ?_))
 refine ae (Lv s c g hW pa pb 0 key vs va vb v0 v1) Tryz.call25 5 [0,1,2,3,4] [0,0,0,0,0] [] ?_
 refine gg (k:= ?_)
 (
 refine ae (eh 0 0 key key hk) Tryz.call19 0 [] [] [] ?_
 rw[decide_eq_true (rfl:key=key)]
 refine gg (k:= ?_)
 refine ae (fF val val.length rfl hv 3 0) Tryz.call19 1 [34] [0] [] ?_
 refine gg (k:= ?_)
 (refine ax (k:= ?_))
 conv=>whnf
 refine bh (fun y:Nat×List UInt8=>y.1≤val.length∧y.2.length=val.length) (fun y=>val.length - y.1) 5 [23,153,154,155,156,157,158,159,160,161] (fun y=>[(23,.val (.int .i64 (y.1:Int)))]) (fun y=>[(34,⟨3,.bytes y.2⟩)]) (0,val) ⟨Nat.zero_le _,rfl⟩ ?_ ?_ ?_
 ·exact no_implicit_lambda%ten
 ·exact no_implicit_lambda%az
 ·rintro⟨i,w⟩ u ⟨u1,u2⟩
  simp only at u1 u2
  refine bc (k:= ?_)
  refine gg (k:= ?_)
  refine⟨fun h=> ?_,fun h=> ?_⟩
  ·have ai:i<val.length:=by have:=of_decide_eq_true h;omega
   refine gg (k:= ?_)
   refine aM (i+1,w.set (0+(i:Int).toNat) (UInt8.ofNat (Int.toNat 85))) ⟨ai,by simp[u2]⟩ (by show val.length - (i+1)<val.length - i;omega) ?_ ?_
   ·exact no_implicit_lambda%ten
   ·exact no_implicit_lambda%az
  ·refine gg (k:= ?_)
   exact⟨_,rfl,rfl,trivial⟩)
theorem LP{W:Int}{n k:Nat}(s:J)(c:Nat){M:List RK}(m:LK s c M)(g:av W n k s)(pa:aC n k 0 c)(pb:aC n k c c)(o:dg)(ho:fE o)(hK:o.K=5)(vs va vb v0 v1:Nat):Spec Tryz.prog 28 [.ref 3 v0 6 0 0,.ref 0 vs 3 0 0,.agg (aN 0 o)] [⟨vs,.obj [.ref 3 v0 6 0 0,.ref 1 va 3 0 0,.ref 2 vb 3 0 0]⟩,⟨va,.obj [.ref 3 v0 6 0 0,.val (.int .i64 ((0:Nat):Int)),.val (.int .i64 (c:Int))]⟩,⟨vb,.obj [.ref 3 v0 6 0 0,.val (.int .i64 (c:Int)),.val (.int .i64 (c:Int))]⟩,⟨v0,.obj [.own 4 v1 1 0 s.l.length,.val (.int .i64 (s.k:Int)),.val (.int .i64 s.ar),.val (.int .i64 s.pt),.val (.bool s.dd),.val (.int .i64 s.wr)]⟩,⟨v1,.bytes s.l⟩] (ak (.al [.agg [.val (.slice none 0 0),.val (.slice none 0 0),.val (.int .i64 (bw M:Int)),.val (.bool false),.val (.int .i64 0)],.ref 0 vs 3 0 0,.val (.bool true)]) [⟨vs,.obj [.ref 3 v0 6 0 0,.ref 1 va 3 0 0,.ref 2 vb 3 0 0]⟩,⟨va,.obj [.ref 3 v0 6 0 0,.val (.int .i64 ((0:Nat):Int)),.val (.int .i64 (c:Int))]⟩,⟨vb,.obj [.ref 3 v0 6 0 0,.val (.int .i64 (c:Int)),.val (.int .i64 (c:Int))]⟩,⟨v0,.obj [.own 4 v1 1 0 s.l.length,.val (.int .i64 (s.k:Int)),.val (.int .i64 s.ar),.val (.int .i64 s.pt),.val (.bool s.dd),.val (.int .i64 s.wr)]⟩,⟨v1,.bytes s.l⟩] []):=by
 have pG:=Lr s c m g pa pb vs va vb v0 v1
 clear m
 (
 obtain⟨K,m,q,key,val⟩:=o
 have hk:=ho.key
 have hv:=ho.val
 simp only at hk hv hK
 subst hK
 refine aq aj Tryz.func28 rfl Tryz.ntmps28 Tryz.results28 ?_
 unfold aN
 simp only
 refine gg (k:= ?_)
 refine ae (fc 0 key hk) Tryz.call23 0 [] [] [] ?_
 refine gg (k:= ?_)
 refine ae (ek 0 val hv) Tryz.call23 0 [0,0,0,34] [0,0,0,1] [3] ?_
 refine gg (k:= ?_))
 refine ae (pG) Tryz.call74 5 [0,1,2,3,4] [0,0,0,0,0] [] ?_
 refine gg (k:= ?_)
 (
 refine ae (eh 0 0 key key hk) Tryz.call19 0 [] [] [] ?_
 rw[decide_eq_true (rfl:key=key)]
 refine gg (k:= ?_)
 refine ae (fF val val.length rfl hv 3 0) Tryz.call19 1 [34] [0] [] ?_
 refine gg (k:= ?_)
 (refine ax (k:= ?_))
 conv=>whnf
 refine bh (fun y:Nat×List UInt8=>y.1≤val.length∧y.2.length=val.length) (fun y=>val.length - y.1) 5 [23,153,154,155,156,157,158,159,160,161] (fun y=>[(23,.val (.int .i64 (y.1:Int)))]) (fun y=>[(34,⟨3,.bytes y.2⟩)]) (0,val) ⟨Nat.zero_le _,rfl⟩ ?_ ?_ ?_
 ·exact no_implicit_lambda%ten
 ·exact no_implicit_lambda%az
 ·rintro⟨i,w⟩ u ⟨u1,u2⟩
  simp only at u1 u2
  refine bc (k:= ?_)
  refine gg (k:= ?_)
  refine⟨fun h=> ?_,fun h=> ?_⟩
  ·have ai:i<val.length:=by have:=of_decide_eq_true h;omega
   refine gg (k:= ?_)
   refine aM (i+1,w.set (0+(i:Int).toNat) (UInt8.ofNat (Int.toNat 85))) ⟨ai,by simp[u2]⟩ (by show val.length - (i+1)<val.length - i;omega) ?_ ?_
   ·exact no_implicit_lambda%ten
   ·exact no_implicit_lambda%az
  ·refine gg (k:= ?_)
   exact⟨_,rfl,rfl,trivial⟩)
theorem LQ{W:Int}{n k:Nat}(s:J)(c:Nat){M:List RK}(lk:LK s c M)(g:av W n k s)(pa:aC n k 0 c)(pb:aC n k c c)(o:dg)(ho:fE o)(hK:o.K=1)(l6:∀r∈M,r.key≠o.key)(vs va vb v0 v1:Nat):Spec Tryz.prog 28 [.ref 3 v0 6 0 0,.ref 0 vs 3 0 0,.agg (aN 0 o)] [⟨vs,.obj [.ref 3 v0 6 0 0,.ref 1 va 3 0 0,.ref 2 vb 3 0 0]⟩,⟨va,.obj [.ref 3 v0 6 0 0,.val (.int .i64 ((0:Nat):Int)),.val (.int .i64 (c:Int))]⟩,⟨vb,.obj [.ref 3 v0 6 0 0,.val (.int .i64 (c:Int)),.val (.int .i64 (c:Int))]⟩,⟨v0,.obj [.own 4 v1 1 0 s.l.length,.val (.int .i64 (s.k:Int)),.val (.int .i64 s.ar),.val (.int .i64 s.pt),.val (.bool s.dd),.val (.int .i64 s.wr)]⟩,⟨v1,.bytes s.l⟩] (ak (.al [.agg [.bs 0 [],.val (.slice none 0 0),.val (.int .i64 0),.val (.bool false),.val (.int .i64 0)],.ref 0 vs 3 0 0,.val (.bool true)]) [⟨vs,.obj [.ref 3 v0 6 0 0,.ref 1 va 3 0 0,.ref 2 vb 3 0 0]⟩,⟨va,.obj [.ref 3 v0 6 0 0,.val (.int .i64 ((0:Nat):Int)),.val (.int .i64 (c:Int))]⟩,⟨vb,.obj [.ref 3 v0 6 0 0,.val (.int .i64 (c:Int)),.val (.int .i64 (c:Int))]⟩,⟨v0,.obj [.own 4 v1 1 0 s.l.length,.val (.int .i64 (s.k:Int)),.val (.int .i64 s.ar),.val (.int .i64 s.pt),.val (.bool s.dd),.val (.int .i64 s.wr)]⟩,⟨v1,.bytes s.l⟩] []):=by
 have hG:=LJ s c lk g pa pb o.key l6 0 vs va vb v0 v1
 (
 obtain⟨K,m,q,key,val⟩:=o
 have hk:=ho.key
 have hv:=ho.val
 simp only at hk hv hK
 subst hK
 refine aq aj Tryz.func28 rfl Tryz.ntmps28 Tryz.results28 ?_
 unfold aN
 simp only
 refine gg (k:= ?_)
 refine ae (fc 0 key hk) Tryz.call23 0 [] [] [] ?_
 refine gg (k:= ?_)
 refine ae (ek 0 val hv) Tryz.call23 0 [0,0,0,34] [0,0,0,1] [3] ?_
 refine gg (k:= ?_))
 refine ae (hG) Tryz.call64 5 [0,1,2,3,4] [0,0,0,0,0] [] ?_
 refine gg (k:= ?_)
 refine ae (zP) Tryz.call23 0 [] [] [] ?_
 refine gg (k:= ?_)
 (refine ax (k:= ?_))
 conv=>whnf
 refine bh (fun i:Nat=>i=0) (fun i=>0) 5 [17,58,59,60,61,62,63,64,65,66] (fun i=>[(17,.val (.int .i64 0))]) (fun i=>[]) 0 rfl ?_ ?_ ?_
 ·exact no_implicit_lambda%ten
 ·exact no_implicit_lambda%az
 ·rintro i v i1
  refine bc (k:= ?_)
  refine gg (k:= ?_)
  (
 refine ae (eh 0 0 key key hk) Tryz.call19 0 [] [] [] ?_
 rw[decide_eq_true (rfl:key=key)]
 refine gg (k:= ?_)
 refine ae (fF val val.length rfl hv 3 0) Tryz.call19 1 [34] [0] [] ?_
 refine gg (k:= ?_)
 (refine ax (k:= ?_))
 conv=>whnf
 refine bh (fun y:Nat×List UInt8=>y.1≤val.length∧y.2.length=val.length) (fun y=>val.length - y.1) 5 [23,153,154,155,156,157,158,159,160,161] (fun y=>[(23,.val (.int .i64 (y.1:Int)))]) (fun y=>[(34,⟨3,.bytes y.2⟩)]) (0,val) ⟨Nat.zero_le _,rfl⟩ ?_ ?_ ?_
 ·exact no_implicit_lambda%ten
 ·exact no_implicit_lambda%az
 ·rintro⟨i,w⟩ u ⟨u1,u2⟩
  simp only at u1 u2
  refine bc (k:= ?_)
  refine gg (k:= ?_)
  refine⟨fun h=> ?_,fun h=> ?_⟩
  ·have ai:i<val.length:=by have:=of_decide_eq_true h;omega
   refine gg (k:= ?_)
   refine aM (i+1,w.set (0+(i:Int).toNat) (UInt8.ofNat (Int.toNat 85))) ⟨ai,by simp[u2]⟩ (by show val.length - (i+1)<val.length - i;omega) ?_ ?_
   ·exact no_implicit_lambda%ten
   ·exact no_implicit_lambda%az
  ·refine gg (k:= ?_)
   exact⟨_,rfl,rfl,trivial⟩)
theorem LR{W:Int}{n k:Nat}(s:J)(c:Nat){M:List RK}(lk:LK s c M)(g:av W n k s)(pa:aC n k 0 c)(pb:aC n k c c)(o:dg)(ho:fE o)(hK:o.K=1)(r:RK)(hr:r∈M)(eP:r.key=o.key)(Qc:r.val.length≤65536)(vs va vb v0 v1:Nat):Spec Tryz.prog 28 [.ref 3 v0 6 0 0,.ref 0 vs 3 0 0,.agg (aN 0 o)] [⟨vs,.obj [.ref 3 v0 6 0 0,.ref 1 va 3 0 0,.ref 2 vb 3 0 0]⟩,⟨va,.obj [.ref 3 v0 6 0 0,.val (.int .i64 ((0:Nat):Int)),.val (.int .i64 (c:Int))]⟩,⟨vb,.obj [.ref 3 v0 6 0 0,.val (.int .i64 (c:Int)),.val (.int .i64 (c:Int))]⟩,⟨v0,.obj [.own 4 v1 1 0 s.l.length,.val (.int .i64 (s.k:Int)),.val (.int .i64 s.ar),.val (.int .i64 s.pt),.val (.bool s.dd),.val (.int .i64 s.wr)]⟩,⟨v1,.bytes s.l⟩] (ak (.al [.agg [.bs 0 r.val,.val (.slice none 0 0),.val (.int .i64 0),.val (.bool true),.val (.int .i64 0)],.ref 0 vs 3 0 0,.val (.bool true)]) [⟨vs,.obj [.ref 3 v0 6 0 0,.ref 1 va 3 0 0,.ref 2 vb 3 0 0]⟩,⟨va,.obj [.ref 3 v0 6 0 0,.val (.int .i64 ((0:Nat):Int)),.val (.int .i64 (c:Int))]⟩,⟨vb,.obj [.ref 3 v0 6 0 0,.val (.int .i64 (c:Int)),.val (.int .i64 (c:Int))]⟩,⟨v0,.obj [.own 4 v1 1 0 s.l.length,.val (.int .i64 (s.k:Int)),.val (.int .i64 s.ar),.val (.int .i64 s.pt),.val (.bool s.dd),.val (.int .i64 s.wr)]⟩,⟨v1,.bytes s.l⟩] []):=by
 obtain⟨ps,p,hp,hG⟩:=LI s c lk g pa pb r hr 0 vs va vb v0 v1
 rw[eP] at hG
 (
 obtain⟨K,m,q,key,val⟩:=o
 have hk:=ho.key
 have hv:=ho.val
 simp only at hk hv hK
 subst hK
 refine aq aj Tryz.func28 rfl Tryz.ntmps28 Tryz.results28 ?_
 unfold aN
 simp only
 refine gg (k:= ?_)
 refine ae (fc 0 key hk) Tryz.call23 0 [] [] [] ?_
 refine gg (k:= ?_)
 refine ae (ek 0 val hv) Tryz.call23 0 [0,0,0,34] [0,0,0,1] [3] ?_
 refine gg (k:= ?_))
 refine ae (hG) Tryz.call64 5 [0,1,2,3,4,0,0,0,0,0,0,0,0,0,0,0,0,0,0,0,0,52] [0,0,0,0,0,0,0,0,0,0,0,0,0,0,0,0,0,0,0,0,0,1] [21] ?_
 refine gg (k:= ?_)
 refine ae (EI 5 p r.val.length ps r.val hp rfl (by omega)) Tryz.call23 1 [52] [0] [] ?_
 refine gg (k:= ?_)
 (refine ax (k:= ?_))
 conv=>whnf
 refine bh (fun y:Nat×List (List UInt8)=>y.1≤r.val.length∧∃x,y.2[p]? =some x∧x.length=r.val.length) (fun y=>r.val.length - y.1) 5 [17,58,59,60,61,62,63,64,65,66] (fun y=>[(17,.val (.int .i64 (y.1:Int)))]) (fun y=>[(52,⟨5,.aB y.2⟩)]) (0,ps) ⟨Nat.zero_le _,_,hp,rfl⟩ ?_ ?_ ?_
 ·exact no_implicit_lambda%ten
 ·exact no_implicit_lambda%az
 ·rintro⟨i,w⟩ u ⟨u1,x,u2,u3⟩
  simp only at u1 u2
  have hg:(w.getD p []).length=r.val.length:=by rw[List.getD_eq_getElem?_getD,u2,Option.getD_some,u3]
  have gR:p<w.length:=(List.getElem?_eq_some_iff.1 u2).1
  refine bc (k:= ?_)
  refine gg (k:= ?_)
  refine⟨fun h=> ?_,fun h=> ?_⟩
  ·have ai:i<r.val.length:=by have:=of_decide_eq_true h;omega
   refine gg (k:= ?_)
   refine gg (k:= ?_)
   refine aM (i+1,w.set p ((w.getD p []).set (0+(i:Int).toNat) (UInt8.ofNat (Int.toNat 85)))) ⟨ai,_,by rw[List.getElem?_set_self gR],by rw[List.length_set];exact hg⟩ (by show r.val.length - (i+1)<r.val.length - i;omega) ?_ ?_
   ·exact no_implicit_lambda%ten
   ·exact no_implicit_lambda%az
  ·refine gg (k:= ?_)
   (
 refine ae (eh 0 0 key key hk) Tryz.call19 0 [] [] [] ?_
 rw[decide_eq_true (rfl:key=key)]
 refine gg (k:= ?_)
 refine ae (fF val val.length rfl hv 3 0) Tryz.call19 1 [34] [0] [] ?_
 refine gg (k:= ?_)
 (refine ax (k:= ?_))
 conv=>whnf
 refine bh (fun y:Nat×List UInt8=>y.1≤val.length∧y.2.length=val.length) (fun y=>val.length - y.1) 5 [23,153,154,155,156,157,158,159,160,161] (fun y=>[(23,.val (.int .i64 (y.1:Int)))]) (fun y=>[(34,⟨3,.bytes y.2⟩)]) (0,val) ⟨Nat.zero_le _,rfl⟩ ?_ ?_ ?_
 ·exact no_implicit_lambda%ten
 ·exact no_implicit_lambda%az
 ·rintro⟨i,w⟩ u ⟨u1,u2⟩
  simp only at u1 u2
  refine bc (k:= ?_)
  refine gg (k:= ?_)
  refine⟨fun h=> ?_,fun h=> ?_⟩
  ·have ai:i<val.length:=by have:=of_decide_eq_true h;omega
   refine gg (k:= ?_)
   refine aM (i+1,w.set (0+(i:Int).toNat) (UInt8.ofNat (Int.toNat 85))) ⟨ai,by simp[u2]⟩ (by show val.length - (i+1)<val.length - i;omega) ?_ ?_
   ·exact no_implicit_lambda%ten
   ·exact no_implicit_lambda%az
  ·refine gg (k:= ?_)
   exact⟨_,rfl,rfl,trivial⟩)
end Go.Proofs.YtpbpiehcchannaaGreatDoor
namespace Go.Proofs.YtpbpiehcchannaaGreatDoor
open Go.RowKit
set_option linter.unusedVariables false
set_option linter.unusedSimpArgs false
set_option maxRecDepth 100000
set_option maxHeartbeats 1500000
theorem LS {W : Int} {n k : Nat} (s : J) (c : Nat) {M : List RK} (lk : LK s c M) (g : av W n k s) (pa : aC n k 0 c) (pb : aC n k c c) (o : dg) (ho : fE o) (hK : o.K = 4) (bW : (M.map fun r => r.key).Nodup) (hb : ∀ r ∈ M, r.key.length ≤ 255) (hl : M.length ≤ 4096) (vs va vb v0 v1 : Nat) : Spec Tryz.prog 28 [.ref 3 v0 6 0 0, .ref 0 vs 3 0 0, .agg (aN 0 o)] [⟨vs, .obj [.ref 3 v0 6 0 0, .ref 1 va 3 0 0, .ref 2 vb 3 0 0]⟩, ⟨va, .obj [.ref 3 v0 6 0 0, .val (.int .i64 ((0 : Nat) : Int)), .val (.int .i64 (c : Int))]⟩, ⟨vb, .obj [.ref 3 v0 6 0 0, .val (.int .i64 (c : Int)), .val (.int .i64 (c : Int))]⟩, ⟨v0, .obj [.own 4 v1 1 0 s.l.length, .val (.int .i64 (s.k : Int)), .val (.int .i64 s.ar), .val (.int .i64 s.pt), .val (.bool s.dd), .val (.int .i64 s.wr)]⟩, ⟨v1, .bytes s.l⟩]
   (ak (.al [.agg [.val (.slice none 0 0),.own 108 (M.length+1) 1 0 M.length,.val (.int .i64 0),.val (.bool false),.val (.int .i64 0)],.ref 0 vs 3 0 0,.val (.bool true)]) [⟨vs,.obj [.ref 3 v0 6 0 0,.ref 1 va 3 0 0,.ref 2 vb 3 0 0]⟩,⟨va,.obj [.ref 3 v0 6 0 0,.val (.int .i64 ((0:Nat):Int)),.val (.int .i64 (c:Int))]⟩,⟨vb,.obj [.ref 3 v0 6 0 0,.val (.int .i64 (c:Int)),.val (.int .i64 (c:Int))]⟩,⟨v0,.obj [.own 4 v1 1 0 s.l.length,.val (.int .i64 (s.k:Int)),.val (.int .i64 s.ar),.val (.int .i64 s.pt),.val (.bool s.dd),.val (.int .i64 s.wr)]⟩,⟨v1,.bytes s.l⟩] [(108,⟨M.length+1,.row 1 (fun k:List UInt8=>[AV.bs 0 k]) [] (jk (M.map fun r=>r.key))⟩)]):=by
 obtain⟨ps,rs,L,rfl,EL,aL,LU⟩:=Lm s c lk g pa pb vs va vb v0 v1
 have cu:=tc (M.map fun r=>r.key)
 rw[List.length_map] at cu
 have jW:∀q∈jk (M.map fun r=>r.key),q.length≤255:=fun q hq=>by
  obtain⟨r,hr,rfl⟩:=List.mem_map.1 ((List.mergeSort_perm _ _).mem_iff.1 hq)
  exact hb r hr
 have EM:(jk (M.map fun r=>r.key)).Nodup:=((List.mergeSort_perm _ _).nodup_iff).2 bW
 generalize jk (M.map fun r=>r.key)=ks at EL aL cu jW EM⊢
 have Qd:ks.length≤4096:=by omega
 rw[←cu]
 clear cu bW hb
 obtain⟨K,m,q,key,val⟩:=o
 have hk:=ho.key
 have hv:=ho.val
 simp only at hk hv hK
 subst hK
 refine aq aj Tryz.func28 rfl Tryz.ntmps28 Tryz.results28 ?_
 unfold aN
 simp only
 refine gg (k:= ?_)
 refine ae (fc 0 key hk) Tryz.call23 0 [] [] [] ?_
 refine gg (k:= ?_)
 refine ae (ek 0 val hv) Tryz.call23 0 [0,0,0,34] [0,0,0,1] [3] ?_
 refine gg (k:= ?_)
 refine ae (LU) Tryz.call72 (he:=⟨fun _=>⟨rfl,trivial⟩,trivial,trivial⟩) 5 [0,1,2,3,4,0,0,0,0,0,0,0,0,0,0,0,0,0,0,0,0,91,0,0,0,0,0,0,0,0,0,0,0,90] [0,0,0,0,0,0,0,0,0,0,0,0,0,0,0,0,0,0,0,0,0,1,0,0,0,0,0,0,0,0,0,0,0,1] [33,21] ?_
 refine gg (k:= ?_)
 (refine ax (k:= ?_))
 conv=>whnf
 have vM:rs.length=ks.length:=EL
 refine lW (oQ (ia 108 1 (.row 1 (fun k:List UInt8=>[AV.bs 0 k]) [] []) rfl (by decide) rfl (sX 108 1 _)) (y6 (b:=14) (r:=108) (v':=1) (cells:=[.val (.slice none 0 0),.val (.slice none 0 0),.val (.int .i64 0),.val (.bool false),.val (.int .i64 0)]) (cells':=[.val (.slice none 0 0),.own 108 1 1 0 0,.val (.int .i64 0),.val (.bool false),.val (.int .i64 0)]) (er:=⟨1,.row 1 (fun k:List UInt8=>[AV.bs 0 k]) [] []⟩) rfl rfl rfl ⟨.inr (.inl rfl),.inr (.inr ⟨1,rfl,rfl⟩),.inr (.inl rfl),.inr (.inl rfl),.inr (.inl rfl),trivial⟩)) ?_
 dsimp only[aH]
 refine bh (fun y:Nat×List (List UInt8)=>y.1≤ks.length∧∀j,y.1≤j→j<ks.length→y.2[(rs.getD j (0,0)).1]? =some (ks.getD j [])) (fun y=>ks.length - y.1) 5 [20,21,89,90,91,92,93,94,95,96,97,98,99,100,101,102,103,104,105,106,107,108,109,110,111,112,113,114,115,116,117,118,119] (fun y=>[(20,.val (.int .i64 (y.1:Int)))])
  (fun y=>[(14,⟨1,.obj [.val (.slice none 0 0),.own 108 (y.1+1) 1 0 y.1,.val (.int .i64 0),.val (.bool false),.val (.int .i64 0)]⟩),(108,⟨y.1+1,.row 1 (fun k:List UInt8=>[AV.bs 0 k]) [] (ks.take y.1)⟩),(91,⟨5,.aB y.2⟩)]) (0,ps) ⟨Nat.zero_le _,fun j _ hj=>by
   have h1:rs[j]? =some (rs.getD j (0,0)):=by rw[List.getD_eq_getElem?_getD,List.getElem?_eq_getElem (by omega)];rfl
   have h2:ks[j]? =some (ks.getD j []):=by rw[List.getD_eq_getElem?_getD,List.getElem?_eq_getElem hj];rfl
   exact(aL j _ _ h1 h2).1⟩ ?_ ?_ ?_
 ·exact no_implicit_lambda%ten
 ·exact no_implicit_lambda%az
 ·rintro⟨i,w⟩ u ⟨u1,u2⟩
  simp only at u1 u2
  refine bc (k:= ?_)
  refine gg (k:= ?_)
  refine⟨fun h=> ?_,fun h=> ?_⟩
  ·have ai:i<ks.length:=by have:=of_decide_eq_true h;omega
   have eU:(rs.getD i (0,0)).2=(ks.getD i []).length:=by
    have h1:rs[i]? =some (rs.getD i (0,0)):=by rw[List.getD_eq_getElem?_getD,List.getElem?_eq_getElem (by omega)];rfl
    have h2:ks[i]? =some (ks.getD i []):=by rw[List.getD_eq_getElem?_getD,List.getElem?_eq_getElem ai];rfl
    exact(aL i _ _ h1 h2).2
   have lC:=u2 i (Nat.le_refl _) ai
   have mF:ks.getD i []=ks[i]:=by rw[List.getD_eq_getElem?_getD,List.getElem?_eq_getElem ai];rfl
   have cE:=jW (ks.getD i []) (by rw[mF];exact List.getElem_mem ai)
   have hC:∀j,i<j→j<ks.length→(rs.getD j (0,0)).1≠(rs.getD i (0,0)).1:=fun j h1 h2 e=>by
    have:=u2 j (by omega) h2
    rw[e,lC,mF,List.getD_eq_getElem?_getD,List.getElem?_eq_getElem h2] at this
    have e2:ks[i]=ks[j]:=Option.some.inj this
    exact List.pairwise_iff_getElem.1 (List.nodup_iff_pairwise_ne.1 EM) i j ai h2 h1 e2
   have EN:ks.take (i+1)=ks.take i++[ks.getD i []]:=by rw[List.take_succ_eq_append_getElem ai,mF]
   generalize hx:rs.getD i (0,0)=x at eU lC hC
   generalize hy:ks.getD i []=ki at eU lC cE EN
   refine gg (k:= ?_)
   refine bz (p:=5) aj hm [0,1,0,0,12,28,60,124,255,511,1023] [⟨0,true,false,[96,97,98,99,100,101,102,103,104]⟩,⟨1,true,false,[97,98,99,100,101,102,103,104]⟩,⟨2,false,false,[]⟩,⟨3,false,false,[]⟩,⟨4,true,false,[95,96,100,101,102,103,104]⟩,⟨5,true,false,[95,96,101,102,103,104]⟩,⟨6,true,false,[95,96,102,103,104]⟩,⟨7,true,false,[95,96,103,104]⟩,⟨8,true,true,[104]⟩,⟨9,true,false,[]⟩,⟨10,true,true,[]⟩] (by kernel_rfl) ?_
   refine gg (k:= ?_)
   simp only[Int.toNat_natCast,Nat.zero_add,hx]
   refine ae (EI 5 x.1 x.2 w ki lC eU (by omega)) Tryz.call23 1 [91] [0] [] ?_
   refine gg (k:= ?_)
   have tf:(ks.take i).length=i:=by rw[List.length_take];omega
   have EO:(ks.take (i+1)).length=i+1:=by rw[List.length_take];omega
   conv=>whnf
   refine⟨List UInt8,(fun k:List UInt8=>[AV.bs 0 k]),[],ks.take (i+1),?_⟩
   conv=>whnf
   refine And.intro ⟨rfl,⟨rfl,rfl,Nat.le_refl _,fun q hq=>(by(have ig:q=0:=by simpa using hq);subst ig;exact⟨trivial,trivial⟩)⟩,rfl,rfl,rfl,tf.symm,.inr rfl,(by rw[EN,List.map_append];rfl),(by rw[EO];show(i+1)*24≤_;omega),by decide⟩ ?_
   rw[EO]
   refine gg (k:= ?_)
   (refine ax (k:= ?_))
   conv=>whnf
   refine bh (fun z:Nat×List (List UInt8)=>z.1≤ki.length∧(∃b,z.2[x.1]? =some b∧b.length=ki.length)∧∀j,i<j→j<ks.length→z.2[(rs.getD j (0,0)).1]? =some (ks.getD j [])) (fun z=>ki.length - z.1) 5 [21,105,106,107,108,109,110,111,112,113,114,115,116,117,118,119] (fun z=>[(21,.val (.int .i64 (z.1:Int)))])
    (fun z=>[(91,⟨5,.aB z.2⟩)]) (0,w) ⟨Nat.zero_le _,⟨_,lC,rfl⟩,fun j h1 h2=>u2 j (by omega) h2⟩ ?_ ?_ ?_
   ·exact no_implicit_lambda%ten
   ·exact no_implicit_lambda%az
   ·rintro⟨e,z⟩ ve ⟨e1,⟨b,e2,e3⟩,e4⟩
    simp only at e1 e2 e4
    have hg:(z.getD x.1 []).length=ki.length:=by rw[List.getD_eq_getElem?_getD,e2,Option.getD_some,e3]
    have gR:x.1<z.length:=(List.getElem?_eq_some_iff.1 e2).1
    refine bc (k:= ?_)
    refine gg (k:= ?_)
    simp only[Int.toNat_natCast,Nat.zero_add,hx]
    refine⟨fun h=> ?_,fun h=> ?_⟩
    ·have jv:e<ki.length:=by have:=of_decide_eq_true h;omega
     refine gg (k:= ?_)
     simp only[Int.toNat_natCast,Nat.zero_add,hx]
     refine gg (k:= ?_)
     refine aM (e+1,z.set x.1 ((z.getD x.1 []).set (0+(e:Int).toNat) (UInt8.ofNat (Int.toNat 85)))) ⟨jv,⟨_,by rw[List.getElem?_set_self gR],by rw[List.length_set];exact hg⟩,fun j h1 h2=>by rw[List.getElem?_set_ne (Ne.symm (hC j h1 h2))];exact e4 j h1 h2⟩ (by show ki.length - (e+1)<ki.length - e;omega) ?_ ?_
     ·exact no_implicit_lambda%ten
     ·exact no_implicit_lambda%az
    ·refine gg (k:= ?_)
     refine aM (i+1,z) ⟨ai,fun j h1 h2=>e4 j (by omega) h2⟩ (by show ks.length - (i+1)<ks.length - i;omega) ?_ ?_
     ·exact no_implicit_lambda%ten
     ·exact no_implicit_lambda%az
  ·obtain rfl:i=ks.length:=by have:=of_decide_eq_false h;omega
   refine gg (k:= ?_)
   rw[List.take_length]
   (
 refine ae (eh 0 0 key key hk) Tryz.call19 0 [] [] [] ?_
 rw[decide_eq_true (rfl:key=key)]
 refine gg (k:= ?_)
 refine ae (fF val val.length rfl hv 3 0) Tryz.call19 1 [34] [0] [] ?_
 refine gg (k:= ?_)
 (refine ax (k:= ?_))
 conv=>whnf
 refine bh (fun y:Nat×List UInt8=>y.1≤val.length∧y.2.length=val.length) (fun y=>val.length - y.1) 5 [23,153,154,155,156,157,158,159,160,161] (fun y=>[(23,.val (.int .i64 (y.1:Int)))]) (fun y=>[(34,⟨3,.bytes y.2⟩)]) (0,val) ⟨Nat.zero_le _,rfl⟩ ?_ ?_ ?_
 ·exact no_implicit_lambda%ten
 ·exact no_implicit_lambda%az
 ·rintro⟨i,w⟩ u ⟨u1,u2⟩
  simp only at u1 u2
  refine bc (k:= ?_)
  refine gg (k:= ?_)
  refine⟨fun h=> ?_,fun h=> ?_⟩
  ·have ai:i<val.length:=by have:=of_decide_eq_true h;omega
   refine gg (k:= ?_)
   refine aM (i+1,w.set (0+(i:Int).toNat) (UInt8.ofNat (Int.toNat 85))) ⟨ai,by simp[u2]⟩ (by show val.length - (i+1)<val.length - i;omega) ?_ ?_
   ·exact no_implicit_lambda%ten
   ·exact no_implicit_lambda%az
  ·refine gg (k:= ?_)
   exact⟨_,rfl,rfl,rfl,trivial⟩)
theorem LV {W : Int} {n k : Nat} (s : J) (c : Nat) {M : List RK} (lk : LK s c M) (g : av W n k s) (pa : aC n k 0 c) (pb : aC n k c c) (o : dg) (ho : fE o) (hK : o.K = 4) (bW : (M.map fun r => r.key).Nodup) (hb : ∀ r ∈ M, r.key.length ≤ 255) (hl : M.length ≤ 4096) (vs va vb v0 v1 : Nat) : Spec Tryz.prog 28 [.ref 3 v0 6 0 0, .ref 0 vs 3 0 0, .agg (aN 0 o)] [⟨vs, .obj [.ref 3 v0 6 0 0, .ref 1 va 3 0 0, .ref 2 vb 3 0 0]⟩, ⟨va, .obj [.ref 3 v0 6 0 0, .val (.int .i64 ((0 : Nat) : Int)), .val (.int .i64 (c : Int))]⟩, ⟨vb, .obj [.ref 3 v0 6 0 0, .val (.int .i64 (c : Int)), .val (.int .i64 (c : Int))]⟩, ⟨v0, .obj [.own 4 v1 1 0 s.l.length, .val (.int .i64 (s.k : Int)), .val (.int .i64 s.ar), .val (.int .i64 s.pt), .val (.bool s.dd), .val (.int .i64 s.wr)]⟩, ⟨v1, .bytes s.l⟩]
   (ak (.al [.agg [.val (.slice none 0 0),.sl 0 1 (fun k:List UInt8=>[AV.bs 0 k]) [] (jk (M.map fun r=>r.key)),.val (.int .i64 0),.val (.bool false),.val (.int .i64 0)],.ref 0 vs 3 0 0,.val (.bool true)]) [⟨vs,.obj [.ref 3 v0 6 0 0,.ref 1 va 3 0 0,.ref 2 vb 3 0 0]⟩,⟨va,.obj [.ref 3 v0 6 0 0,.val (.int .i64 ((0:Nat):Int)),.val (.int .i64 (c:Int))]⟩,⟨vb,.obj [.ref 3 v0 6 0 0,.val (.int .i64 (c:Int)),.val (.int .i64 (c:Int))]⟩,⟨v0,.obj [.own 4 v1 1 0 s.l.length,.val (.int .i64 (s.k:Int)),.val (.int .i64 s.ar),.val (.int .i64 s.pt),.val (.bool s.dd),.val (.int .i64 s.wr)]⟩,⟨v1,.bytes s.l⟩] []):=
 br (LS s c lk g pa pb o ho hK bW hb hl vs va vb v0 v1) (by simp[ef]) (AF.al (af.cons (AF.agg (af.cons AF.same (af.cons (EP rfl (by rw[tc,List.length_map])) (af.cons AF.same (af.cons AF.same (af.cons AF.same af.nil)))))) (af.cons AF.same (af.cons AF.same af.nil)))) ⟨rfl,BF.same,rfl,BF.same,rfl,BF.same,rfl,BF.same,rfl,BF.same,trivial⟩
end Go.Proofs.YtpbpiehcchannaaGreatDoor
