/- Walks of bank: size, read, program, Room, Ready. Walks of bank: Ready, Head, Format. Walks of bank: each, scan. Walks of bank: Scan, Kill, Add. Walks of bank: Add. Conditions: the premises of each law. -/
import Derived.Test.YtpbpiehcchannaaGreatDoorJGa
import Derived.Test.YtpbpiehcchannaaGreatDoorJGf
import Derived.Test.YtpbpiehcchannaaGreatDoorJAe
namespace Go.Proofs.YtpbpiehcchannaaGreatDoor
open Go.RowKit
set_option linter.unusedVariables false
set_option linter.unusedSimpArgs false
set_option maxRecDepth 100000
set_option maxHeartbeats 1500000
structure lf(s:J)(a c:Nat):Prop where
 len:s.l.length≤140737488355328
 k:0<s.k∧s.k≤65536
 fit:a*s.k+c*s.k≤s.l.length
 ac:a≤140737488355328∧c≤140737488355328
theorem lf.int{s:J}{a c:Nat}(h:lf s a c):0≤(a:Int)*(s.k:Int)∧0≤(c:Int)*(s.k:Int)∧(a:Int)*(s.k:Int)+(c:Int)*(s.k:Int)≤s.l.length:=by
 have:=h.fit
 refine⟨by exact_mod_cast Nat.zero_le _,by exact_mod_cast Nat.zero_le _,by exact_mod_cast this⟩
theorem vz(s:J)(a c:Nat)(h:lf s a c)(vb v0 v1:Nat):Spec Tryz.prog 122 [.ref 0 vb 3 0 0] [⟨vb,.obj [.ref 1 v0 6 0 0,.val (.int .i64 (a:Int)),.val (.int .i64 (c:Int))]⟩,⟨v0,.obj [.own 2 v1 1 0 s.l.length,.val (.int .i64 (s.k:Int)),.val (.int .i64 s.ar),.val (.int .i64 s.pt),.val (.bool s.dd),.val (.int .i64 s.wr)]⟩,⟨v1,.bytes s.l⟩] (bY (.val (.int .i64 ((c:Int)*s.k))) [⟨vb,.obj [.ref 1 v0 6 0 0,.val (.int .i64 (a:Int)),.val (.int .i64 (c:Int))]⟩,⟨v0,.obj [.own 2 v1 1 0 s.l.length,.val (.int .i64 (s.k:Int)),.val (.int .i64 s.ar),.val (.int .i64 s.pt),.val (.bool s.dd),.val (.int .i64 s.wr)]⟩,⟨v1,.bytes s.l⟩]):=by
 have hi:=h.int
 have hl:=h.len
 refine aq aj Tryz.func122 rfl Tryz.ntmps122 Tryz.results122 ?_
 refine gg (k:= ?_)
 (refine ax (k:= ?_))
 refine bz (p:=3) aj hm [0,1,3,7,0,16,48,112,240,511,1023] [⟨0,false,false,[]⟩,⟨1,true,false,[5,6,7,8,9,10,11,12,2]⟩,⟨2,true,false,[6,7,8,9,10,11,12,2]⟩,⟨3,true,false,[7,8,9,10,11,12,2]⟩,⟨4,false,false,[]⟩,⟨5,true,false,[3,4,5,6,9,10,11,12,2]⟩,⟨6,true,false,[3,4,5,6,10,11,12,2]⟩,⟨7,true,false,[3,4,5,6,11,12,2]⟩,⟨8,true,false,[3,4,5,6,12,2]⟩,⟨9,false,false,[]⟩,⟨10,false,false,[]⟩] (by kernel_rfl) ?_
 refine gg (k:= ?_)
 refine aP (pz s v0 v1) Tryz.call67 [1,2] ?_
 refine gg (k:= ?_)
 exact⟨_,rfl,rfl⟩
theorem KJ(s:J)(a c:Nat)(h:lf s a c)(vb v0 v1:Nat):Spec Tryz.prog 85 [.ref 0 vb 3 0 0] [⟨vb,.obj [.ref 1 v0 6 0 0,.val (.int .i64 (a:Int)),.val (.int .i64 (c:Int))]⟩,⟨v0,.obj [.own 2 v1 1 0 s.l.length,.val (.int .i64 (s.k:Int)),.val (.int .i64 s.ar),.val (.int .i64 s.pt),.val (.bool s.dd),.val (.int .i64 s.wr)]⟩,⟨v1,.bytes s.l⟩] (bY (.val (.int .i64 ((c:Int)*s.k - 16))) [⟨vb,.obj [.ref 1 v0 6 0 0,.val (.int .i64 (a:Int)),.val (.int .i64 (c:Int))]⟩,⟨v0,.obj [.own 2 v1 1 0 s.l.length,.val (.int .i64 (s.k:Int)),.val (.int .i64 s.ar),.val (.int .i64 s.pt),.val (.bool s.dd),.val (.int .i64 s.wr)]⟩,⟨v1,.bytes s.l⟩]):=by
 have hi:=h.int
 have hl:=h.len
 refine aq aj Tryz.func85 rfl Tryz.ntmps85 Tryz.results85 ?_
 refine gg (k:= ?_)
 refine aP (vz s a c h vb v0 v1) Tryz.call122 [0,1,2] ?_
 refine gg (k:= ?_)
 exact⟨_,rfl,rfl⟩
theorem zp (s : J) (a c : Nat) (h : lf s a c) (n : Int) (hn : aG n) (vb v0 v1 : Nat) : Spec Tryz.prog 156 [.ref 0 vb 3 0 0, .val (.int .i64 n)] [⟨vb, .obj [.ref 1 v0 6 0 0, .val (.int .i64 (a : Int)), .val (.int .i64 (c : Int))]⟩, ⟨v0, .obj [.own 2 v1 1 0 s.l.length, .val (.int .i64 (s.k : Int)), .val (.int .i64 s.ar), .val (.int .i64 s.pt), .val (.bool s.dd), .val (.int .i64 s.wr)]⟩, ⟨v1, .bytes s.l⟩]
   (ak (.al [.own 24 4 1 0 (s.read ((a:Int)*s.k) n).2.length,.val (.int .i64 (s.read ((a:Int)*s.k) n).1)]) [⟨vb,.obj [.ref 1 v0 6 0 0,.val (.int .i64 (a:Int)),.val (.int .i64 (c:Int))]⟩,⟨v0,.obj [.own 2 v1 1 0 s.l.length,.val (.int .i64 (s.k:Int)),.val (.int .i64 s.ar),.val (.int .i64 s.pt),.val (.bool s.dd),.val (.int .i64 s.wr)]⟩,⟨v1,.bytes s.l⟩] [(24,⟨4,.bytes (s.read ((a:Int)*s.k) n).2⟩)]):=by
 have hi:=h.int
 have hl:=h.len
 refine aq aj Tryz.func156 rfl Tryz.ntmps156 Tryz.results156 ?_
 refine gg (k:= ?_)
 (refine ax (k:= ?_))
 refine bz (p:=3) aj hm [0,1,3,7,0,16,48,112,0,256,768,1792,3840,8176,0,32767,65535,65535,262143,524287] [⟨0,false,false,[]⟩,⟨1,true,false,[8,9,10,11,12,13,14,15,16,17,18,19,20,21,22,23,4,5]⟩,⟨2,true,false,[9,10,11,12,13,14,15,16,17,18,19,20,21,22,23,4,5]⟩,⟨3,true,false,[10,11,12,13,14,15,16,17,18,19,20,21,22,23,4,5]⟩,⟨4,false,false,[]⟩,⟨5,true,false,[6,7,8,9,12,13,14,15,16,17,18,19,20,21,22,23,4,5]⟩,⟨6,true,false,[6,7,8,9,13,14,15,16,17,18,19,20,21,22,23,4,5]⟩,⟨7,true,false,[6,7,8,9,14,15,16,17,18,19,20,21,22,23,4,5]⟩,⟨8,false,false,[]⟩,⟨9,true,false,[6,7,8,9,10,11,12,13,16,17,18,19,20,21,22,23,4,5]⟩,⟨10,true,false,[6,7,8,9,10,11,12,13,17,18,19,20,21,22,23,4,5]⟩,⟨11,true,false,[6,7,8,9,10,11,12,13,18,19,20,21,22,23,4,5]⟩,⟨14,false,false,[]⟩,⟨12,true,false,[6,7,8,9,10,11,12,13,19,20,21,22,23,4,5]⟩,⟨13,false,false,[]⟩,⟨15,true,true,[22,23,4,5]⟩,⟨16,false,false,[]⟩,⟨17,false,false,[]⟩,⟨18,false,false,[]⟩,⟨19,false,false,[]⟩] (by kernel_rfl) ?_
 refine gg (k:= ?_)
 refine aP (pz s v0 v1) Tryz.call67 [1,2] ?_
 refine gg (k:= ?_)
 refine ae (KG s hl ((a:Int)*s.k) n (by unfold aG;omega) hn v0 v1) Tryz.call188 2 [1,2,0,0,0,0,0,0,0,0,0,0,0,0,0,0,0,0,0,0,0,0,0,0,0,0,0,0,0,0,24] [0,0,0,0,0,0,0,0,0,0,0,0,0,0,0,0,0,0,0,0,0,0,0,0,0,0,0,0,0,0,1] [30] ?_
 refine gg (k:= ?_)
 exact⟨_,rfl,rfl,rfl,trivial⟩
theorem KK (s : J) (a c : Nat) (h : lf s a c) (at_ : Int) (ha : aG (a * s.k + at_)) (m : List UInt8) (eX : m.length ≤ 140737488355328) (je : aG s.ar) (jf : 0 ≤ s.wr ∧ s.wr + m.length < 9223372036854775807) (z : Nat) (vb v0 v1 : Nat) : Spec Tryz.prog 123 [.ref 0 vb 3 0 0, .val (.int .i64 at_), .bs z m] [⟨vb, .obj [.ref 1 v0 6 0 0, .val (.int .i64 (a : Int)), .val (.int .i64 (c : Int))]⟩, ⟨v0, .obj [.own 2 v1 1 0 s.l.length, .val (.int .i64 (s.k : Int)), .val (.int .i64 s.ar), .val (.int .i64 s.pt), .val (.bool s.dd), .val (.int .i64 s.wr)]⟩, ⟨v1, .bytes s.l⟩]
   (bY (.val (.int .i64 (s.prog ((a:Int)*s.k+at_) m).1)) [⟨vb,.obj [.ref 1 v0 6 0 0,.val (.int .i64 (a:Int)),.val (.int .i64 (c:Int))]⟩,⟨v0,.obj [.own 2 v1 1 0 (s.prog ((a:Int)*s.k+at_) m).2.l.length,.val (.int .i64 ((s.prog ((a:Int)*s.k+at_) m).2.k:Int)),.val (.int .i64 (s.prog ((a:Int)*s.k+at_) m).2.ar),.val (.int .i64 (s.prog ((a:Int)*s.k+at_) m).2.pt),.val (.bool (s.prog ((a:Int)*s.k+at_) m).2.dd),.val (.int .i64 (s.prog ((a:Int)*s.k+at_) m).2.wr)]⟩,⟨v1,.bytes (s.prog ((a:Int)*s.k+at_) m).2.l⟩]):=by
 have hi:=h.int
 have hl:=h.len
 refine aq aj Tryz.func123 rfl Tryz.ntmps123 Tryz.results123 ?_
 refine gg (k:= ?_)
 (refine ax (k:= ?_))
 refine bz (p:=3) aj hm [0,1,3,7,0,16,48,112,0,256,768,1792,3840,8176,0,32752,0,131071,262143] [⟨0,false,false,[]⟩,⟨1,true,false,[9,10,11,12,13,14,15,16,17,18,19,20,21,22,23,24,6]⟩,⟨2,true,false,[10,11,12,13,14,15,16,17,18,19,20,21,22,23,24,6]⟩,⟨3,true,false,[11,12,13,14,15,16,17,18,19,20,21,22,23,24,6]⟩,⟨4,false,false,[]⟩,⟨5,true,false,[7,8,9,10,13,14,15,16,17,18,19,20,21,22,23,24,6]⟩,⟨6,true,false,[7,8,9,10,14,15,16,17,18,19,20,21,22,23,24,6]⟩,⟨7,true,false,[7,8,9,10,15,16,17,18,19,20,21,22,23,24,6]⟩,⟨8,false,false,[]⟩,⟨9,true,false,[7,8,9,10,11,12,13,14,17,18,19,20,21,22,23,24,6]⟩,⟨10,true,false,[7,8,9,10,11,12,13,14,18,19,20,21,22,23,24,6]⟩,⟨11,true,false,[7,8,9,10,11,12,13,14,19,20,21,22,23,24,6]⟩,⟨14,false,false,[]⟩,⟨16,false,false,[]⟩,⟨12,true,false,[7,8,9,10,11,12,13,14,20,21,22,23,24,6]⟩,⟨13,false,false,[]⟩,⟨15,false,false,[]⟩,⟨17,true,true,[6]⟩,⟨18,false,false,[]⟩] (by kernel_rfl) ?_
 refine gg (k:= ?_)
 refine aP (pz s v0 v1) Tryz.call67 [1,2] ?_
 refine gg (k:= ?_)
 refine aP (KH s hl ((a:Int)*s.k+at_) ha m eX je jf z v0 v1) Tryz.call165 [1,2] ?_
 refine gg (k:= ?_)
 exact⟨_,rfl,rfl⟩
end Go.Proofs.YtpbpiehcchannaaGreatDoor
namespace Go.Proofs.YtpbpiehcchannaaGreatDoor
open Go.RowKit
set_option linter.unusedVariables false
set_option linter.unusedSimpArgs false
set_option maxRecDepth 100000
set_option maxHeartbeats 1500000
theorem D7:∀(m:List UInt8)(k:Nat)(c:List UInt8)(left w:Int),aG left→aG (dw m k c left w).2.2.1∧w≤(dw m k c left w).2.2.2.2∧(dw m k c left w).2.2.2.2≤w+m.length
 | [],_,_,_,_,h=>⟨h,by simp[dw],by simp[dw]⟩
 | b::m,k,c,left,w,h=>by
  rw[dw]
  split
  ·refine⟨?_,?_,?_⟩
   ·simp only[aG] at*;omega
   ·simp
   ·simp only[List.length_cons];omega
  ·obtain⟨h1,h2,h3⟩:=D7 m (k+1) (c.set k (c.getD k 0&&&b)) (if 0<left then left - 1 else left) (w+1) (by simp only[aG] at*;split<;>omega)
   refine⟨h1,by omega,?_⟩
   simp only[List.length_cons]
   omega
structure av(B:Int)(n k:Nat)(s:J):Prop where
 len:n≤4194304
 kk:0<k∧k≤65536
 ar:aG s.ar
 pt:0≤s.pt∧aG s.pt
 wr:0≤s.wr∧s.wr≤B
 l:s.l.length=n
 k:s.k=k
theorem av.mono{B B':Int}{n k:Nat}{s:J}(h:av B n k s)(hB:B≤B'):av B' n k s:=
 ⟨h.len,h.kk,h.ar,h.pt,⟨h.wr.1,by have:=h.wr.2;omega⟩,h.l,h.k⟩
theorem av.prog{B:Int}{n k:Nat}{s:J}(h:av B n k s)(a:Int)(b:List UInt8):av (B+b.length) n k (s.prog a b).2:=by
 unfold J.prog
 split
 ·exact h.mono (by omega)
 ·split
  ·obtain⟨h1,h2,h3⟩:=D7 b a.toNat s.l s.ar s.wr h.ar
   have:=h.wr
   refine⟨h.len,h.kk,h1,h.pt,⟨?_,?_⟩,?_,h.k⟩
   ·simp only;omega
   ·simp only;omega
   ·simp only[vu];exact h.l
  ·exact h.mono (by omega)
theorem av.erase{B:Int}{n k:Nat}{s:J}(h:av B n k s)(a:Int):av (B+1) n k (s.erase a).2:=by
 unfold J.erase
 split
 ·exact h.mono (by omega)
 ·split
  ·have h0:=h.ar
   have h1:=h.wr
   have hl:(if s.goes=true then fp s.l (a.toNat*s.k) (min s.pt (s.k:Int)).toNat else fp s.l (a.toNat*s.k) s.k).length=s.l.length:=by split<;>simp[py]
   refine⟨h.len,h.kk,?_,h.pt,⟨?_,?_⟩,?_,h.k⟩
   ·simp only[aG] at*;split<;>omega
   ·simp only;split<;>omega
   ·simp only;split<;>omega
   ·simp only[hl];exact h.l
  ·exact h.mono (by omega)
theorem av.arm{B:Int}{n k:Nat}{s:J}(h:av B n k s)(x y:Int)(hx:aG x)(hy:aG y):av B n k (s.arm x y).2:=by
 unfold J.arm
 split
 ·exact h
 ·split
  ·exact h
  ·exact⟨h.len,h.kk,hx,⟨by simp only;omega,hy⟩,h.wr,h.l,h.k⟩
theorem av.on{B:Int}{n k:Nat}{s:J}(h:av B n k s):av B n k s.on.2:=by
 unfold J.on
 split
 ·exact⟨h.len,h.kk,by show aG 0;unfold aG;omega,h.pt,h.wr,h.l,h.k⟩
 ·exact h
structure aC(n k a c:Nat):Prop where
 c1:1≤c
 fa:64≤c*k
 fit:a*k+c*k≤n
 ac:a≤4194304∧c≤4194304
theorem av.eZ{B:Int}{n k a c:Nat}{s:J}(h:av B n k s)(p:aC n k a c):lf s a c:=by
 have:=h.len;have h1:=h.kk;have h2:=h.l;have h3:=h.k;have h4:=p.fit;have h5:=p.ac
 refine⟨by omega,by rw[h3];exact h1,by rw[h3,h2];exact h4,by omega⟩
theorem qT (s : J) (a c : Nat) (h : lf s a c) (at_ : Int) (ha : aG (a * s.k + at_)) (m : List UInt8) (n : Nat) (hn : n = m.length) (eX : m.length ≤ 140737488355328) (je : aG s.ar) (jf : 0 ≤ s.wr ∧ s.wr + m.length < 9223372036854775807) (vb v0 v1 v2 : Nat) : Spec Tryz.prog 123 [.ref 0 vb 3 0 0, .val (.int .i64 at_), .own 3 v2 1 0 n] [⟨vb, .obj [.ref 1 v0 6 0 0, .val (.int .i64 (a : Int)), .val (.int .i64 (c : Int))]⟩, ⟨v0, .obj [.own 2 v1 1 0 s.l.length, .val (.int .i64 (s.k : Int)), .val (.int .i64 s.ar), .val (.int .i64 s.pt), .val (.bool s.dd), .val (.int .i64 s.wr)]⟩, ⟨v1, .bytes s.l⟩, ⟨v2, .bytes m⟩]
   (ak (.val (.int .i64 (s.prog ((a:Int)*s.k+at_) m).1)) [⟨vb,.obj [.ref 1 v0 6 0 0,.val (.int .i64 (a:Int)),.val (.int .i64 (c:Int))]⟩,⟨v0,.obj [.own 2 v1 1 0 (s.prog ((a:Int)*s.k+at_) m).2.l.length,.val (.int .i64 ((s.prog ((a:Int)*s.k+at_) m).2.k:Int)),.val (.int .i64 (s.prog ((a:Int)*s.k+at_) m).2.ar),.val (.int .i64 (s.prog ((a:Int)*s.k+at_) m).2.pt),.val (.bool (s.prog ((a:Int)*s.k+at_) m).2.dd),.val (.int .i64 (s.prog ((a:Int)*s.k+at_) m).2.wr)]⟩,⟨v1,.bytes (s.prog ((a:Int)*s.k+at_) m).2.l⟩,⟨v2,.bytes m⟩] []):=by
 subst hn
 have e:=whole m
 have h:=oX (lT (KK s a c h at_ ha ((m.drop 0).take m.length) (by rw[e];exact eX) je (by rw[e];exact jf) 0 vb v0 v1)) (R:=[⟨v2,.bytes m⟩]) (args:=[.ref 0 vb 3 0 0,.val (.int .i64 at_),.own 3 v2 1 0 m.length])
  trivial ⟨⟨trivial,trivial,trivial,trivial⟩,⟨trivial,trivial,trivial,trivial,trivial,trivial,trivial⟩,trivial,trivial⟩ ⟨⟨(by decide:1<3),trivial,trivial,trivial⟩,⟨(by decide:2<3),trivial,trivial,trivial,trivial,trivial,trivial⟩,trivial,trivial⟩ ⟨⟨trivial,trivial,trivial,trivial⟩,⟨trivial,trivial,trivial,trivial,trivial,trivial,trivial⟩,trivial,trivial⟩ rfl trivial trivial
  (gx (mL trivial (by decide:0<3)) (gx (mL trivial trivial) (gx (o0 (q:=0) (l:=m) rfl (by omega)) oY)))
 rw[e] at h
 exact h
theorem zq {W : Int} {n k : Nat} (s : J) (a c : Nat) (g : av W n k s) (hW : W ≤ 9000000000000000000) (p : aC n k a c) (vb v0 v1 : Nat) : Spec Tryz.prog 114 [.ref 0 vb 3 0 0] [⟨vb, .obj [.ref 1 v0 6 0 0, .val (.int .i64 (a : Int)), .val (.int .i64 (c : Int))]⟩, ⟨v0, .obj [.own 2 v1 1 0 s.l.length, .val (.int .i64 (s.k : Int)), .val (.int .i64 s.ar), .val (.int .i64 s.pt), .val (.bool s.dd), .val (.int .i64 s.wr)]⟩, ⟨v1, .bytes s.l⟩]
   (ak (.val (.int .i64 (s.prog ((a:Int)*s.k+12) [254]).1)) [⟨vb,.obj [.ref 1 v0 6 0 0,.val (.int .i64 (a:Int)),.val (.int .i64 (c:Int))]⟩,⟨v0,.obj [.own 2 v1 1 0 (s.prog ((a:Int)*s.k+12) [254]).2.l.length,.val (.int .i64 ((s.prog ((a:Int)*s.k+12) [254]).2.k:Int)),.val (.int .i64 (s.prog ((a:Int)*s.k+12) [254]).2.ar),.val (.int .i64 (s.prog ((a:Int)*s.k+12) [254]).2.pt),.val (.bool (s.prog ((a:Int)*s.k+12) [254]).2.dd),.val (.int .i64 (s.prog ((a:Int)*s.k+12) [254]).2.wr)]⟩,⟨v1,.bytes (s.prog ((a:Int)*s.k+12) [254]).2.l⟩] []):=by
 have h:=g.eZ p
 have hi:=h.int
 have hl:=h.len
 have hw:=g.wr
 refine aq aj Tryz.func114 rfl Tryz.ntmps114 Tryz.results114 ?_
 refine gg (k:= ?_)
 refine ae (qT s a c h 12 (by unfold aG;omega) [254] 1 rfl (by decide) g.ar ⟨by omega,by show s.wr+1<_;omega⟩ vb v0 v1 1) Tryz.call123 4 [0,1,2,9] [0,0,0,0] [] ?_
 refine gg (k:= ?_)
 exact⟨_,rfl,rfl,trivial⟩
theorem qU{W:Int}{n k a c:Nat}{s:J}(g:av W n k s)(p:aC n k a c)(m:Nat)(hm:m≤c*k):(s.dd=true∧s.read ((a:Int)*s.k) m=(6,[]))∨(s.dd=false∧s.read ((a:Int)*s.k) m=(0,(s.l.drop (a*k)).take m)∧((s.l.drop (a*k)).take m).length=m):=by
 have h1:=p.fit;have h2:=g.l;have h3:=g.k
 unfold J.read
 cases s.dd with
 | true=>exact .inl ⟨rfl,by simp⟩
 | false=>
  right
  have e1:((a:Int)*s.k)=((a*k:Nat):Int):=by rw[h3];push_cast;rfl
  rw[e1]
  have h4:0≤((a*k:Nat):Int)∧0≤(m:Int)∧((a*k:Nat):Int)+(m:Int)≤s.l.length:=by omega
  simp only[if_pos h4,Bool.false_eq_true,if_false,Int.toNat_natCast]
  refine⟨trivial,trivial,?_⟩
  rw[List.length_take,List.length_drop];omega
def J.head(s:J)(a:Nat):Int×Bool×Int:=if s.dd then(0,false,6) else if((s.l.drop (a*s.k)).take 16).take 12=dE (cm ((((s.l.drop (a*s.k)).take 16).drop 4).take 4)) then((cm ((((s.l.drop (a*s.k)).take 16).drop 4).take 4):Int),decide (((((s.l.drop (a*s.k)).take 16).getD 12 0).toNat:Int)=254),0) else(0,false,0)
theorem KL (l : List UInt8) (L : Nat) (hL : L = l.length) (hb : l.length ≤ 140737488355328) (v : Nat) (at_ n : Int) (ha : aG at_) (hn : n = 2 ∨ n = 4) (hw : 0 ≤ at_ ∧ at_ + n ≤ l.length) : Spec Tryz.prog 157 [.own 0 v 1 0 L, .val (.int .i64 at_), .val (.int .i64 n)] [⟨v, .bytes l⟩]
   (ak (.val (.int .i64 (cm ((l.drop at_.toNat).take n.toNat)))) [⟨v,.bytes l⟩] []):=by
 subst hL
 have h:=pq (l:=l) 0 l.length (by omega) (lT (ze ((l.drop 0).take l.length) (by rw[whole];exact hb) 0 at_ n ha hn (by rw[whole];exact hw))) trivial trivial (fun _=>du lR (du lR fT)) v
 rw[whole] at h
 exact h
theorem KM(a:List UInt8)(n m:Nat)(hn:n≤a.length)(b:List UInt8)(eX:m=b.length)(v0 v1:Nat):Spec Tryz.prog 125 [.own 0 v0 1 0 n,.own 1 v1 1 0 m] [⟨v0,.bytes a⟩,⟨v1,.bytes b⟩] (ak (.val (.bool (decide (a.take n=b)))) [⟨v0,.bytes a⟩,⟨v1,.bytes b⟩] []):=by
 subst eX
 have:=jY (lT (zh ((a.drop 0).take n) ((b.drop 0).take b.length) 0 0)) trivial trivial (rows:=[⟨v0,.bytes a⟩,⟨v1,.bytes b⟩]) (args:=[.own 0 v0 1 0 n,.own 1 v1 1 0 b.length]) (du (kC (l:=a) rfl (by omega)) (du (kC (l:=b) rfl (by omega)) fT))
 rw[whole,List.drop_zero] at this
 exact this
theorem D8 {W : Int} {n k : Nat} (s : J) (a c : Nat) (g : av W n k s) (p : aC n k a c) (vb v0 v1 : Nat) : Spec Tryz.prog 112 [.ref 0 vb 3 0 0] [⟨vb, .obj [.ref 1 v0 6 0 0, .val (.int .i64 (a : Int)), .val (.int .i64 (c : Int))]⟩, ⟨v0, .obj [.own 2 v1 1 0 s.l.length, .val (.int .i64 (s.k : Int)), .val (.int .i64 s.ar), .val (.int .i64 s.pt), .val (.bool s.dd), .val (.int .i64 s.wr)]⟩, ⟨v1, .bytes s.l⟩]
   (ak (.al [.val (.int .u32 (s.head a).1),.val (.bool (s.head a).2.1),.val (.int .i64 (s.head a).2.2)]) [⟨vb,.obj [.ref 1 v0 6 0 0,.val (.int .i64 (a:Int)),.val (.int .i64 (c:Int))]⟩,⟨v0,.obj [.own 2 v1 1 0 s.l.length,.val (.int .i64 (s.k:Int)),.val (.int .i64 s.ar),.val (.int .i64 s.pt),.val (.bool s.dd),.val (.int .i64 s.wr)]⟩,⟨v1,.bytes s.l⟩] []):=by
 have h:=g.eZ p
 have hl:=h.len
 have hb:=p.fa
 refine aq aj Tryz.func112 rfl Tryz.ntmps112 Tryz.results112 ?_
 refine gg (k:= ?_)
 refine ae (zp s a c h 16 (by unfold aG;omega) vb v0 v1) Tryz.call156 3 [0,1,2,0,0,0,0,0,0,0,0,0,0,0,0,0,0,0,0,0,0,0,0,0,13] [0,0,0,0,0,0,0,0,0,0,0,0,0,0,0,0,0,0,0,0,0,0,0,0,1] [24] ?_
 rcases qU g p 16 (by omega) with⟨hd,hr⟩ | ⟨hd,hr,hx⟩
 ·rw[show((16:Nat):Int)=16 from rfl] at hr
  rw[hr]
  refine gg (k:= ?_)
  refine⟨_,?_,rfl,trivial⟩
  unfold J.head;rw[hd];rfl
 rw[show((16:Nat):Int)=16 from rfl] at hr
 rw[hr]
 have eU:((s.l.drop (a*s.k)).take 16)=((s.l.drop (a*k)).take 16):=by rw[g.k]
 unfold J.head
 rw[hd,eU]
 generalize ((s.l.drop (a*k)).take 16)=x at hx hr
 refine gg (k:= ?_)
 refine ae (KL x x.length rfl (by omega) 5 4 4 (by unfold aG;omega) (.inr rfl) (by omega)) Tryz.call157 1 [13] [0] [] ?_
 have hn:=k8 ((x.drop 4).take 4)
 have ot:((x.drop 4).take 4).length=4:=by rw[List.length_take,List.length_drop];omega
 rw[ot] at hn
 refine gg (k:= ?_)
 (refine ax (k:= ?_))
 refine bz (p:=3) aj hm [0,1,0,4,15,31] [⟨0,false,false,[]⟩,⟨1,true,false,[21,22,23,24]⟩,⟨2,false,false,[]⟩,⟨3,true,false,[19,20,23,24]⟩,⟨4,true,false,[24]⟩,⟨5,false,false,[]⟩] (by kernel_rfl) ?_
 refine gg (k:= ?_)
 have hG:((cm (List.take (Int.toNat 4) (List.drop (Int.toNat 4) x)):Nat):Int)%4294967296=(cm ((x.drop 4).take 4):Nat):=by
  show((cm (List.take 4 (List.drop 4 x)):Nat):Int)%4294967296=_
  omega
 rw[hG]
 generalize KN:cm ((x.drop 4).take 4)=G at hn
 refine ae (DS (G:Int) (by omega)) Tryz.call158 0 [0,0,0,0,0,0,0,0,0,0,0,0,0,25] [0,0,0,0,0,0,0,0,0,0,0,0,0,1] [13] ?_
 refine gg (k:= ?_)
 refine ae (KM x 12 12 (by omega) (dE G) (j7 _).symm 5 7) Tryz.call125 2 [13,25] [0,0] [] ?_
 refine gg (k:= ?_)
 refine⟨fun h=> ?_,fun h=> ?_⟩
 ·have aF:¬x.take 12=dE G:=by simpa using h
  refine gg (k:= ?_)
  rw[if_neg aF]
  exact⟨_,rfl,rfl,trivial⟩
 ·have he:x.take 12=dE G:=by simpa using h
  refine gg (k:= ?_)
  (refine ax (k:= ?_))
  refine bz (p:=3) aj hm [0,0,2,6,14,1,63,127] [⟨0,false,false,[]⟩,⟨1,false,false,[]⟩,⟨2,true,false,[25,28,29,2,3,4]⟩,⟨3,true,false,[25,29,2,3,4]⟩,⟨4,false,false,[]⟩,⟨5,false,false,[]⟩,⟨6,false,false,[]⟩,⟨7,false,false,[]⟩] (by kernel_rfl) ?_
  refine gg (k:= ?_)
  rw[if_pos he]
  exact⟨_,rfl,rfl,trivial⟩
def J.bC(s:J)(a:Nat):Nat→Int×J
 | 0=>(0,s)
 | m+1=>if(s.bC a m).1=0 then(s.bC a m).2.erase ((a:Int)+m) else s.bC a m
def J.format(s:J)(a c:Nat)(g:Int):Int×J:=if(s.bC a c).1=0 then(s.bC a c).2.prog ((a:Int)*s.k) (dE g) else s.bC a c
theorem zr(s:J)(a:Nat){m:Nat}(h:(s.bC a m).1≠0):∀d,s.bC a (m+d)=s.bC a m
 | 0=>rfl
 | d+1=>by
  have ih:=zr s a h d
  rw[←Nat.add_assoc,J.bC,ih,if_neg h]
theorem av.bC{B:Int}{n k:Nat}{s:J}(h:av B n k s)(a:Nat):∀m:Nat,av (B+m) n k (s.bC a m).2
 | 0=>h.mono (by omega)
 | m+1=>by
  have ih:=h.bC a m
  rw[J.bC]
  split
  ·exact(ih.erase _).mono (by omega)
  ·exact ih.mono (by omega)
theorem zt {W : Int} {n k : Nat} (s : J) (a c : Nat) (g : av W n k s) (hW : W ≤ 9000000000000000000) (p : aC n k a c) (gen : Int) (lY : 0 ≤ gen ∧ gen ≤ 4294967295) (vb v0 v1 : Nat) : Spec Tryz.prog 113 [.ref 0 vb 3 0 0, .val (.int .u32 gen)] [⟨vb, .obj [.ref 1 v0 6 0 0, .val (.int .i64 (a : Int)), .val (.int .i64 (c : Int))]⟩, ⟨v0, .obj [.own 2 v1 1 0 s.l.length, .val (.int .i64 (s.k : Int)), .val (.int .i64 s.ar), .val (.int .i64 s.pt), .val (.bool s.dd), .val (.int .i64 s.wr)]⟩, ⟨v1, .bytes s.l⟩]
   (ak (.val (.int .i64 (s.format a c gen).1)) [⟨vb,.obj [.ref 1 v0 6 0 0,.val (.int .i64 (a:Int)),.val (.int .i64 (c:Int))]⟩,⟨v0,.obj [.own 2 v1 1 0 (s.format a c gen).2.l.length,.val (.int .i64 ((s.format a c gen).2.k:Int)),.val (.int .i64 (s.format a c gen).2.ar),.val (.int .i64 (s.format a c gen).2.pt),.val (.bool (s.format a c gen).2.dd),.val (.int .i64 (s.format a c gen).2.wr)]⟩,⟨v1,.bytes (s.format a c gen).2.l⟩] []):=by
 have zu:=p.ac
 refine aq aj Tryz.func113 rfl Tryz.ntmps113 Tryz.results113 ?_
 refine gg (k:= ?_)
 (refine ax (k:= ?_))
 conv=>whnf
 refine bh (fun i:Nat=>i≤c∧(s.bC a i).1=0) (fun i=>c - i) 3 [4,5,6,13,14,15,16,17,18,19,20,21,22,23,24,25,26,27,28,29,30] (fun i=>[(13,.val (.int .i64 i))]) (fun i=>[(0,⟨vb,.obj [.ref 1 v0 6 0 0,.val (.int .i64 (a:Int)),.val (.int .i64 (c:Int))]⟩),(1,⟨v0,.obj [.own 2 v1 1 0 (s.bC a i).2.l.length,.val (.int .i64 ((s.bC a i).2.k:Int)),.val (.int .i64 (s.bC a i).2.ar),.val (.int .i64 (s.bC a i).2.pt),.val (.bool (s.bC a i).2.dd),.val (.int .i64 (s.bC a i).2.wr)]⟩),(2,⟨v1,.bytes (s.bC a i).2.l⟩)]) 0 ⟨Nat.zero_le _,rfl⟩ ?_ ?_ ?_
 ·exact no_implicit_lambda%ten
 ·exact no_implicit_lambda%az
 ·rintro i v ⟨h1,h2⟩
  refine bc (k:= ?_)
  refine gg (k:= ?_)
  have hS:s.bC a (i+1)=(s.bC a i).2.erase ((a:Int)+i):=by rw[J.bC,if_pos h2]
  have gi:=g.bC a i
  have KO:=g.bC a (i+1)
  have zv:=gi.wr
  refine⟨fun h=> ?_,fun h=> ?_⟩
  ·have hi:i<c:=by have:=of_decide_eq_true h;omega
   refine gg (k:= ?_)
   (refine ax (k:= ?_))
   refine bz (p:=3) aj hm [0,1,3,7,0,16,48,112,0,496,1023,2047] [⟨0,false,false,[]⟩,⟨1,true,false,[18,19,20,21,22,23,24,25,26,6]⟩,⟨2,true,false,[19,20,21,22,23,24,25,26,6]⟩,⟨3,true,false,[20,21,22,23,24,25,26,6]⟩,⟨4,false,false,[]⟩,⟨5,true,false,[16,17,18,19,22,23,24,25,26,6]⟩,⟨6,true,false,[16,17,18,19,23,24,25,26,6]⟩,⟨7,true,false,[16,17,18,19,24,25,26,6]⟩,⟨8,false,false,[]⟩,⟨9,false,false,[]⟩,⟨10,true,true,[6]⟩,⟨11,false,false,[]⟩] (by kernel_rfl) ?_
   refine gg (k:= ?_)
   refine aP (KI (s.bC a i).2 (by have:=gi.l;have:=gi.len;omega) (by rw[gi.k];exact gi.kk) ((a:Int)+i) (by unfold aG;omega) gi.ar gi.pt ⟨zv.1,by omega⟩ v0 v1) Tryz.call159 [1,2] ?_
   rw[←hS]
   refine gg (k:= ?_)
   refine⟨fun h=> ?_,fun h=> ?_⟩
   ·have aF:(s.bC a (i+1)).1≠0:=by simpa using h
    refine gg (k:= ?_)
    have dL:=zr s a aF (c - (i+1))
    rw[show i+1+(c - (i+1))=c by omega] at dL
    have hf:s.format a c gen=s.bC a (i+1):=by unfold J.format;rw[dL,if_neg aF]
    rw[hf]
    exact⟨_,rfl,rfl,trivial⟩
   ·have he:(s.bC a (i+1)).1=0:=by simpa using h
    refine gg (k:= ?_)
    refine aM (i+1) ⟨hi,he⟩ (by show c - (i+1)<c - i;omega) ?_ ?_
    ·exact no_implicit_lambda%ten
    ·exact no_implicit_lambda%az
  ·have hi:i=c:=by have:=of_decide_eq_false h;omega
   subst hi
   refine gg (k:= ?_)
   refine ae (DS gen lY) Tryz.call158 0 [0,0,0,0,0,0,0,0,0,0,0,0,0,36] [0,0,0,0,0,0,0,0,0,0,0,0,0,1] [13] ?_
   refine gg (k:= ?_)
   have gP:=gi.eZ p
   have s8:=gP.int
   have ij:=gP.len
   refine ae (qT (s.bC a i).2 a i gP 0 (by unfold aG;omega) (dE gen) 12 (j7 _).symm (by rw[j7];decide) gi.ar ⟨zv.1,by rw[j7];omega⟩ vb v0 v1 7) Tryz.call123 4 [0,1,2,36] [0,0,0,0] [] ?_
   refine gg (k:= ?_)
   have hf:s.format a i gen=(s.bC a i).2.prog ((a:Int)*(s.bC a i).2.k+0) (dE gen):=by
    unfold J.format;rw[if_pos h2,Int.add_zero,gi.k,g.k]
   rw[hf]
   exact⟨_,rfl,rfl,trivial⟩
end Go.Proofs.YtpbpiehcchannaaGreatDoor
namespace Go.Proofs.YtpbpiehcchannaaGreatDoor
open Go.RowKit
set_option linter.unusedVariables false
set_option linter.unusedSimpArgs false
set_option maxRecDepth 100000
set_option maxHeartbeats 1500000
theorem KP(v n:Nat)(x:List UInt8):Spec Tryz.prog 164 [.own 0 v 1 0 n] [⟨v,.bytes x⟩] (ak (.clo 202 [.ref 2 1 1 0 0]) [⟨v,.bytes x⟩] [(2,⟨1,.obj [.own 0 v 1 0 n]⟩)]):=by
 refine aq aj Tryz.func164 rfl Tryz.ntmps164 Tryz.results164 ?_
 refine gg (k:= ?_)
 exact⟨_,rfl,rfl,rfl,trivial⟩
structure Rc where
 key:List UInt8
 val:List UInt8
 lv:Bool
 at_:Nat
theorem pn(x:List UInt8):12≤bU x:=by unfold bU;omega
def bj(x:List UInt8)(a:Nat):List Rc×Nat×Bool:=
 if h:a<x.length∧x.getD a 0≠255 then
  if dU (x.drop a) then(⟨bR (x.drop a),b5 (x.drop a),jc (x.drop a),a⟩::(bj x (a+bU (x.drop a))).1,(bj x (a+bU (x.drop a))).2)
  else([],a,false)
 else([],a,true)
termination_by x.length - a
decreasing_by all_goals (have:=pn (x.drop a);omega)
theorem pj{x:List UInt8}{a:Nat}(h:a<x.length∧x.getD a 0≠255)(hr:dU (x.drop a)):bj x a=(⟨bR (x.drop a),b5 (x.drop a),jc (x.drop a),a⟩::(bj x (a+bU (x.drop a))).1,(bj x (a+bU (x.drop a))).2):=by
 rw[bj,dif_pos h,if_pos hr]
theorem po{x:List UInt8}{a:Nat}(h:a<x.length∧x.getD a 0≠255)(hr:¬dU (x.drop a)):bj x a=([],a,false):=by
 rw[bj,dif_pos h,if_neg hr]
theorem nT{x:List UInt8}{a:Nat}(h:¬(a<x.length∧x.getD a 0≠255)):bj x a=([],a,true):=by
 rw[bj,dif_neg h]
structure Rr where
 i:Nat
 kn:Nat
 vn:Nat
 lv:Bool
def bO(r v:Nat)(y:Rr):List AV:=[.pl r v y.i 0 y.kn,.pl r v (y.i+1) 0 y.vn,.val (.bool y.lv)]
def bK:Nat→List Rc→List Rr
 | _,[]=>[]
 | i,c::l=>⟨i,c.key.length,c.val.length,c.lv⟩::bK (i+2) l
def cV(l:List Rc):List (List UInt8):=l.flatMap fun c=>[c.key,c.val]
theorem cP:∀(l:List Rc)(i:Nat),(bK i l).length=l.length
 | [],_=>rfl
 | _::l,i=>by simp[bK,cP l]
theorem zw:∀(l:List Rc),(cV l).length=2*l.length
 | []=>rfl
 | c::l=>by
  have:=zw l
  simp only[cV,List.flatMap_cons,List.length_append,List.length_cons,List.length_nil] at this⊢
  omega
theorem D9(c:Rc):∀(l:List Rc)(i:Nat),bK i (l++[c])=bK i l++[⟨i+2*l.length,c.key.length,c.val.length,c.lv⟩]
 | [],i=>by simp[bK]
 | d::l,i=>by
  simp only[List.cons_append,bK,D9 c l,List.length_cons,List.cons.injEq,true_and]
  rw[show i+2+2*l.length=i+2*(l.length+1) by omega]
theorem KQ(c:Rc)(l:List Rc):cV (l++[c])=cV l++[c.key]++[c.val]:=by simp[cV]
theorem drop_take(x:List UInt8)(o:Nat):(x.drop o).take (x.length - o)=x.drop o:=by rw[List.take_of_length_le];rw[List.length_drop];exact Nat.le_refl _
theorem KR (x : List UInt8) (hx : x.length ≤ 140737488355328) (o n v : Nat) (ho : o ≤ x.length) (hn : n = x.length - o) (y : List UInt8) (hy : y = x.drop o) (h : dU y) : Spec Tryz.prog 203 [.own 0 v 1 o n] [⟨v, .bytes x⟩]
    (ak (.al [.agg [.own 55 3 1 0 (bR y).length,.own 61 3 1 0 (b5 y).length,.val (.bool (jc y))],.val (.int .i64 (bU y))]) [⟨v,.bytes x⟩] [(55,⟨3,.bytes (bR y)⟩),(61,⟨3,.bytes (b5 y)⟩)]):=by
 subst hn hy
 have:=pq (l:=x) o (x.length - o) (by omega) (Kq 0 ((x.drop o).take (x.length - o)) (by rw[drop_take,List.length_drop];omega) (by rw[drop_take];exact h)) ⟨⟨trivial,trivial,trivial,trivial⟩,trivial,trivial⟩ ⟨trivial,trivial,trivial⟩ (fun _=>fT) v
 rw[drop_take] at this
 exact this
theorem KS (x : List UInt8) (hx : x.length ≤ 140737488355328) (o n v : Nat) (ho : o ≤ x.length) (hn : n = x.length - o) (h : ¬ dU (x.drop o)) : Spec Tryz.prog 203 [.own 0 v 1 o n] [⟨v, .bytes x⟩]
    (ak (.al [nW,.val (.int .i64 0)]) [⟨v,.bytes x⟩] []):=by
 subst hn
 have:=pq (l:=x) o (x.length - o) (by omega) (Kp 0 ((x.drop o).take (x.length - o)) (by rw[drop_take,List.length_drop];omega) (by rw[drop_take];exact h)) ⟨⟨trivial,trivial,trivial,trivial⟩,trivial,trivial⟩ trivial (fun _=>fT) v
 exact this
structure SY where
 at_:Nat
 rs:List Rc
theorem zx {W : Int} {n k : Nat} (s : J) (a c : Nat) (g : av W n k s) (p : aC n k a c) (hd : s.dd = false) (x : List UInt8) (hx : x = (s.l.drop (a * k)).take (c * k)) (vb v0 v1 : Nat) : Spec Tryz.prog 121 [.ref 0 vb 3 0 0] [⟨vb, .obj [.ref 1 v0 6 0 0, .val (.int .i64 (a : Int)), .val (.int .i64 (c : Int))]⟩, ⟨v0, .obj [.own 2 v1 1 0 s.l.length, .val (.int .i64 (s.k : Int)), .val (.int .i64 s.ar), .val (.int .i64 s.pt), .val (.bool s.dd), .val (.int .i64 s.wr)]⟩, ⟨v1, .bytes s.l⟩]
   (ak (.al [.own 94 ((bj x 16).1.length+1) 3 0 (bj x 16).1.length,.own 98 ((bj x 16).1.length+1) 1 0 (bj x 16).1.length,.val (.int .i64 ((bj x 16).2.1:Int)),.val (.bool (bj x 16).2.2),.val (.int .i64 0)]) [⟨vb,.obj [.ref 1 v0 6 0 0,.val (.int .i64 (a:Int)),.val (.int .i64 (c:Int))]⟩,⟨v0,.obj [.own 2 v1 1 0 s.l.length,.val (.int .i64 (s.k:Int)),.val (.int .i64 s.ar),.val (.int .i64 s.pt),.val (.bool s.dd),.val (.int .i64 s.wr)]⟩,⟨v1,.bytes s.l⟩]
    [(94,⟨(bj x 16).1.length+1,.row 3 (bO 104 1) ⟨0,0,0,false⟩ (bK 0 (bj x 16).1)⟩),(98,⟨(bj x 16).1.length+1,.row 1 (cK .i64) 0 ((bj x 16).1.map fun c=>(c.at_:Int))⟩),(104,⟨1,.aB (cV (bj x 16).1)⟩)]):=by
 have h:=g.eZ p
 have hi:=h.int
 have hl:=h.len
 have hb:=p.fa
 have fy:=p.fit
 have fA:=g.len
 refine Dt aj Tryz.func121 rfl Tryz.ntmps121 Tryz.results121 60 104 ?_
 refine gg (k:= ?_)
 refine aP (vz s a c h vb v0 v1) Tryz.call122 [0,1,2] ?_
 refine gg (k:= ?_)
 refine JW 104 ?_
 refine ae (zp s a c h ((c:Int)*s.k) (by unfold aG;omega) vb v0 v1) Tryz.call156 3 [0,1,2,0,0,0,0,0,0,0,0,0,0,0,0,0,0,0,0,0,0,0,0,0,74] [0,0,0,0,0,0,0,0,0,0,0,0,0,0,0,0,0,0,0,0,0,0,0,0,1] [24] ?_
 refine⟨0,rfl,?_⟩
 have hr:s.read ((a:Int)*s.k) ((c:Int)*s.k)=(0,x):=by
  rcases qU g p (c*k) (Nat.le_refl _) with⟨q,_⟩ | ⟨_,q,_⟩
  ·rw[hd] at q;cases q
  ·rw[hx,←q,g.k];push_cast;rfl
 have ny:x.length=c*k:=by
  rcases qU g p (c*k) (Nat.le_refl _) with⟨q,_⟩ | ⟨_,_,q⟩
  ·rw[hd] at q;cases q
  ·rw[hx];exact q
 rw[hr]
 refine gg (k:= ?_)
 refine ae (KP 5 x.length x) Tryz.call164 1 [74,0,81] [0,0,1] [2] ?_
 refine gg (k:= ?_)
 (refine ax (k:= ?_))
 conv=>whnf
 refine JD aj (p':=3) (m:=0) 103 0 rfl trivial Tryz.func202 rfl Tryz.ntmps202 Tryz.results202 Tryz.call202 (by kernel_rfl) rfl ?_
 intro i Ea Eb Ed
 have hI:Go.RowKit.Hid _:=And.intro Ea (And.intro Eb Ed)
 clear Ea Eb Ed
 (refine ax (k:= ?_))
 refine gg (k:= ?_)
 (refine ax (k:= ?_))
 conv=>whnf
 refine lW (oQ (DA (b:=62) (r:=94) (v':=1) (sz:=3) (bd':= .row 3 (bO 104 1) ⟨0,0,0,false⟩ []) rfl rfl rfl (by decide) rfl) (DA (b:=63) (r:=98) (v':=1) (sz:=1) (bd':= .row 1 (cK .i64) 0 []) rfl rfl rfl (by decide) rfl)) ?_
 dsimp only[aH]
 refine bh (fun y:SY=>16≤y.at_∧y.at_≤x.length∧12*y.rs.length≤y.at_∧bj x 16=(y.rs++(bj x y.at_).1,(bj x y.at_).2)) (fun y=>x.length - y.at_) 3 [3,4,5,6,7,8,9,10,11,12,13,14,15,16,17,18,19,20,21,22,23,24,25,26,27,28,29,30,31,32,33,34,35,36,37,66,90,94,102,103]
  (fun y=>[(3,.val (.int .i64 (y.at_:Int)))])
  (fun y=>[(62,⟨1,.obj [.own 94 (y.rs.length+1) 3 0 y.rs.length]⟩),(63,⟨1,.obj [.own 98 (y.rs.length+1) 1 0 y.rs.length]⟩),(94,⟨y.rs.length+1,.row 3 (bO 104 1) ⟨0,0,0,false⟩ (bK 0 y.rs)⟩),(98,⟨y.rs.length+1,.row 1 (cK .i64) 0 (y.rs.map fun c=>(c.at_:Int))⟩),(104,⟨1,.aB (cV y.rs)⟩)])
  ⟨16,[]⟩ ⟨Nat.le_refl _,by show 16≤x.length;omega,by show 12*0≤16;omega,by simp⟩ ?_ ?_ ?_
 ·exact no_implicit_lambda%ten
 ·exact no_implicit_lambda%az
 ·rintro⟨at_,rs⟩ v ⟨h1,h2,h3,h4⟩
  simp only at h1 h2 h3 h4
  refine bc (k:= ?_)
  refine gg (k:= ?_)
  have cS:0+((at_:Int)).toNat=at_:=by omega
  refine⟨fun h=> ?_,fun h=> ?_⟩
  ·have ai:at_<x.length∧x.getD at_ 0≠255:=by
     rw[Bool.and_eq_true,Bool.not_eq_true',decide_eq_false_iff_not,cS] at h
     refine⟨by have:=of_decide_eq_true h.1;omega,fun q=>h.2 ?_⟩
     rw[q];rfl
   have hN:=pn (x.drop at_)
   refine gg (k:= ?_)
   by_cases j9:dU (x.drop at_)
   ·have lZ:bU (x.drop at_)≤x.length - at_:=by have:=j9.2.2.2.2.2.1;rw[List.length_drop] at this;exact this
    refine Dx 106 104 ?_
    refine Dx 105 104 ?_
    refine ae (KR x (by omega) (0+((at_:Int)).toNat) (((x.length - ((at_:Int)).toNat))) 5 (by omega) (by omega) (x.drop at_) (by rw[cS]) j9) Tryz.call203 (hz:=fun r hr=>by(obtain rfl:r=0:=by omega);rfl) (had:=⟨⟨_,rfl,Nat.lt_succ_self _⟩,⟨_,rfl,Nat.lt_succ_self _⟩,trivial⟩) 1 [74,0,0,0,0,0,0,0,0,0,0,0,0,0,0,0,0,0,0,0,0,0,0,0,0,0,0,0,0,0,0,0,0,0,0,0,0,0,0,0,0,0,0,0,0,0,0,0,0,0,0,0,0,0,0,105,0,0,0,0,0,106] [0,0,0,0,0,0,0,0,0,0,0,0,0,0,0,0,0,0,0,0,0,0,0,0,0,0,0,0,0,0,0,0,0,0,0,0,0,0,0,0,0,0,0,0,0,0,0,0,0,0,0,0,0,0,0,(v 105+1),0,0,0,0,0,(v 106+1)] [55,61] ?_
    refine⟨_,_,_,_,rfl,rfl,_,_,_,_,rfl,rfl,?_⟩
    have b1:Nat.beq 106 105=false:=rfl
    have b2:Nat.beq 105 105=true:=rfl
    have b3:Nat.beq 106 106=true:=rfl
    have b4:Nat.beq 1 1=true:=rfl
    dsimp only[bx,b7,cU,rl.ck]
    simp only[k7,nS,Nat.beq_refl,b1,b2,b3,b4,Bool.and_true,Bool.and_self,Bool.false_and,cond_true,cond_false]
    have KT:(cV rs++[bR (x.drop at_)]).length=2*rs.length+1:=by rw[List.length_append,zw];rfl
    rw[KT,zw rs]
    refine gg (k:= ?_)
    conv=>whnf
    obtain⟨jg,lg,jd⟩:_∧_∧_:=hI
    refine yL (args:=[.val (.int .i64 (at_:Int)),.agg [.pl 104 1 (2*rs.length) 0 (bR (x.drop at_)).length,.pl 104 1 (2*rs.length+1) 0 (b5 (x.drop at_)).length,.val (.bool (jc (x.drop at_)))]]) aj (p:=60) (i:=i) rfl (by rw[lg];rfl) (by rw[jd];rfl) (by rw[jg];rfl) ?_
    have dG:i.ps.toList=[22,23]:=by rw[jg]
    rw[lg,jd,dG]
    clear dG;clear jg lg jd
    dsimp only[lV,aH]
    have cE:(bR (x.drop at_)).length=au (x.drop at_):=by
     have:=j9.2.2.2.2.2.1
     unfold bU at this
     unfold bR;rw[List.length_drop,List.length_take];omega
    have kv:=j9.2.2.1
    refine gg (k:= ?_)
    (refine ax (k:= ?_))
    refine bz (p:=60) aj hm [0,0,2,7,0,0,32,127,255,511] [⟨0,true,false,[32,33,34,35,36,37,38]⟩,⟨1,true,false,[31,33,34,35,36,37,38]⟩,⟨2,true,false,[31,34,35,36,37,38]⟩,⟨3,true,false,[35,36,37,38]⟩,⟨4,true,false,[31,32,33,34,36,37,38]⟩,⟨5,false,false,[]⟩,⟨6,true,false,[31,32,33,34,35,38]⟩,⟨7,true,false,[]⟩,⟨8,true,true,[]⟩,⟨9,true,true,[]⟩] (by kernel_rfl) ?_
    refine gg (k:= ?_)
    conv=>whnf
    obtain⟨R,hR⟩:∃R:List Rc,R=rs++[⟨bR (x.drop at_),b5 (x.drop at_),jc (x.drop at_),at_⟩]:=⟨_,rfl⟩
    have l5:R.length=rs.length+1:=by rw[hR];simp
    have KU:cV R=cV rs++[bR (x.drop at_)]++[b5 (x.drop at_)]:=by rw[hR,KQ]
    have mO:bK 0 R=bK 0 rs++[⟨2*rs.length,(bR (x.drop at_)).length,(b5 (x.drop at_)).length,jc (x.drop at_)⟩]:=by rw[hR,D9,Nat.zero_add]
    have zy:(R.map fun c=>(c.at_:Int))=(rs.map fun c=>(c.at_:Int))++[(at_:Int)]:=by rw[hR];simp
    refine⟨Rr,bO 104 1,⟨0,0,0,false⟩,bK 0 R,?_⟩
    conv=>whnf
    refine And.intro ?_ ?_
    ·refine⟨rfl,⟨rfl,rfl,Nat.le_refl _,fun q hq=>(by(have ig:q=0:=by simpa using hq);subst ig;exact⟨rfl,rfl,rfl,trivial⟩)⟩,rfl,rfl,rfl,(cP rs 0).symm,.inr rfl,?_,?_,by decide⟩
     ·rw[mO,List.map_append];rfl
     ·rw[cP,l5]
      show(rs.length+1)*56≤_
      omega
    refine gg (k:= ?_)
    conv=>whnf
    refine⟨Int,cK .i64,0,R.map fun c=>(c.at_:Int),?_⟩
    conv=>whnf
    refine And.intro ?_ ?_
    ·refine⟨rfl,⟨rfl,rfl,Nat.le_refl _,fun q _=>⟨rfl,trivial⟩⟩,rfl,rfl,rfl,by simp,.inr rfl,?_,?_,by decide⟩
     ·rw[zy,List.map_append];rfl
     ·rw[List.length_map,l5]
      show(rs.length+1)*8≤_
      omega
    refine gg (k:= ?_)
    have KV:x.length - (at_+bU (x.drop at_))<x.length - at_:=by omega
    dsimp only[sd,BV,qm]
    refine aM (σ:=SY) ⟨at_+bU (x.drop at_),R⟩ ⟨by show 16≤at_+_;omega,by show at_+_≤_;omega,by show 12*R.length≤at_+_;rw[l5];omega,?_⟩ KV ?_ ?_
    ·show bj x 16=(R++(bj x (at_+bU (x.drop at_))).1,(bj x (at_+bU (x.drop at_))).2)
     rw[h4,pj ai j9,hR]
     simp
    ·exact no_implicit_lambda%ten
    ·dsimp only[dt,jA,jB,aH,Nat.reduceAdd,Nat.zero_add]
     rw[cP,List.length_map,l5,KU]
     exact no_implicit_lambda%az
   ·refine ae (KS x (by omega) (0+((at_:Int)).toNat) (((x.length - ((at_:Int)).toNat))) 5 (by omega) (by omega) (by rw[cS];exact j9)) Tryz.call203 1 [74] [0] [] ?_
    refine gg (k:= ?_)
    conv=>whnf
    obtain⟨jg,lg,jd⟩:_∧_∧_:=hI
    refine yL (args:=[.val (.int .i64 (at_:Int)),nW]) aj (p:=60) (i:=i) rfl (by rw[lg];rfl) (by rw[jd];rfl) (by rw[jg];rfl) ?_
    have dG:i.ps.toList=[22,23]:=by rw[jg]
    rw[lg,jd,dG]
    clear dG;clear jg lg jd
    unfold nW
    dsimp only[lV,aH]
    refine gg (k:= ?_)
    (refine ax (k:= ?_))
    refine bz (p:=60) aj hm [0,0,2,1,15] [⟨0,false,false,[]⟩,⟨1,false,false,[9]⟩,⟨2,false,false,[9]⟩,⟨3,true,true,[9,29,30]⟩,⟨4,true,true,[]⟩] (by kernel_rfl) ?_
    refine gg (k:= ?_)
    refine⟨_,rfl,?_⟩
    refine gg (k:= ?_)
    (refine ax (k:= ?_))
    refine bz (p:=60) aj hm [0,0,0,0,1,19,55,127,255] [⟨0,true,false,[40,41,42,6]⟩,⟨1,false,false,[3]⟩,⟨2,false,false,[4]⟩,⟨3,false,false,[5]⟩,⟨4,true,true,[5,4,3,40,41,42,6]⟩,⟨5,true,true,[5,4,41,42,6]⟩,⟨6,true,true,[5,42,6]⟩,⟨7,true,true,[6]⟩,⟨8,false,false,[]⟩] (by kernel_rfl) ?_
    refine gg (k:= ?_)
    (refine ax (k:= ?_))
    have hG:bj x 16=(rs,at_,false):=by rw[h4,po ai j9];simp
    refine⟨_,lO _,by simp[eM,ik],by simp[nR,qI,eM,ik,bO,cK,fZ,fj],?_⟩
    refine gg (k:= ?_)
    rw[hG]
    exact⟨_,rfl,rfl,rfl,rfl,rfl,trivial⟩
  ·have iA:¬(at_<x.length∧x.getD at_ 0≠255):=by
     rw[cS] at h
     rintro⟨q1,q2⟩
     rw[decide_eq_true (by omega:(at_:Int)< (x.length:Int)),Bool.true_and,Bool.not_eq_false',decide_eq_true_eq] at h
     exact q2 (UInt8.toNat_inj.1 (by exact_mod_cast h))
   refine gg (k:= ?_)
   conv=>whnf
   obtain⟨jg,lg,jd⟩:_∧_∧_:=hI
   refine yL (args:=[.val (.int .i64 (at_:Int)),.agg [.val (.slice none 0 0),.val (.slice none 0 0),.val (.bool true)]]) aj (p:=60) (i:=i) rfl (by rw[lg];rfl) (by rw[jd];rfl) (by rw[jg];rfl) ?_
   have dG:i.ps.toList=[22,23]:=by rw[jg]
   rw[lg,jd,dG]
   clear dG;clear jg lg jd
   dsimp only[lV,aH]
   refine gg (k:= ?_)
   (refine ax (k:= ?_))
   refine bz (p:=60) aj hm [0,0,2,1,15] [⟨0,false,false,[]⟩,⟨1,false,false,[9]⟩,⟨2,false,false,[9]⟩,⟨3,true,true,[9,29,30]⟩,⟨4,true,true,[]⟩] (by kernel_rfl) ?_
   refine gg (k:= ?_)
   refine⟨_,rfl,?_⟩
   refine gg (k:= ?_)
   (refine ax (k:= ?_))
   refine bz (p:=60) aj hm [0,0,0,0,1,19,55,127,255] [⟨0,true,false,[40,41,42,6]⟩,⟨1,false,false,[3]⟩,⟨2,false,false,[4]⟩,⟨3,false,false,[5]⟩,⟨4,true,true,[5,4,3,40,41,42,6]⟩,⟨5,true,true,[5,4,41,42,6]⟩,⟨6,true,true,[5,42,6]⟩,⟨7,true,true,[6]⟩,⟨8,false,false,[]⟩] (by kernel_rfl) ?_
   refine gg (k:= ?_)
   (refine ax (k:= ?_))
   have hG:bj x 16=(rs,at_,true):=by rw[h4,nT iA];simp
   refine⟨_,lO _,by simp[eM,ik],by simp[nR,qI,eM,ik,bO,cK,fZ,fj],?_⟩
   refine gg (k:= ?_)
   rw[hG]
   exact⟨_,rfl,rfl,rfl,rfl,rfl,trivial⟩
theorem zz {W : Int} {n k : Nat} (s : J) (a c : Nat) (g : av W n k s) (p : aC n k a c) (hd : s.dd = true) (vb v0 v1 : Nat) : Spec Tryz.prog 121 [.ref 0 vb 3 0 0] [⟨vb, .obj [.ref 1 v0 6 0 0, .val (.int .i64 (a : Int)), .val (.int .i64 (c : Int))]⟩, ⟨v0, .obj [.own 2 v1 1 0 s.l.length, .val (.int .i64 (s.k : Int)), .val (.int .i64 s.ar), .val (.int .i64 s.pt), .val (.bool s.dd), .val (.int .i64 s.wr)]⟩, ⟨v1, .bytes s.l⟩]
   (ak (.al [.val (.slice none 0 0),.val (.slice none 0 0),.val (.int .i64 0),.val (.bool false),.val (.int .i64 6)]) [⟨vb,.obj [.ref 1 v0 6 0 0,.val (.int .i64 (a:Int)),.val (.int .i64 (c:Int))]⟩,⟨v0,.obj [.own 2 v1 1 0 s.l.length,.val (.int .i64 (s.k:Int)),.val (.int .i64 s.ar),.val (.int .i64 s.pt),.val (.bool s.dd),.val (.int .i64 s.wr)]⟩,⟨v1,.bytes s.l⟩] []):=by
 have h:=g.eZ p
 have hi:=h.int
 have hl:=h.len
 refine Dt aj Tryz.func121 rfl Tryz.ntmps121 Tryz.results121 60 104 ?_
 refine gg (k:= ?_)
 refine aP (vz s a c h vb v0 v1) Tryz.call122 [0,1,2] ?_
 refine gg (k:= ?_)
 refine ae (zp s a c h ((c:Int)*s.k) (by unfold aG;omega) vb v0 v1) Tryz.call156 3 [0,1,2,0,0,0,0,0,0,0,0,0,0,0,0,0,0,0,0,0,0,0,0,0,74] [0,0,0,0,0,0,0,0,0,0,0,0,0,0,0,0,0,0,0,0,0,0,0,0,1] [24] ?_
 have hr:s.read ((a:Int)*s.k) ((c:Int)*s.k)=(6,[]):=by unfold J.read;rw[hd];rfl
 rw[hr]
 refine gg (k:= ?_)
 (refine ax (k:= ?_))
 refine⟨_,lO _,by simp[eM,ik],by simp[nR,qI,eM,ik,fZ,fj],?_⟩
 refine gg (k:= ?_)
 exact⟨_,rfl,rfl,trivial⟩
end Go.Proofs.YtpbpiehcchannaaGreatDoor
namespace Go.Proofs.YtpbpiehcchannaaGreatDoor
open Go.RowKit
set_option linter.unusedVariables false
set_option linter.unusedSimpArgs false
set_option maxRecDepth 100000
set_option maxHeartbeats 1500000
def J.bE(s:J)(a c:Nat):List UInt8:=(s.l.drop (a*s.k)).take (c*s.k)
def J.scan(s:J)(a c:Nat):List Rc×Nat×Bool:=bj (s.bE a c) 16
theorem KW {W : Int} {n k : Nat} (s : J) (a c : Nat) (g : av W n k s) (p : aC n k a c) (hd : s.dd = true) (vb v0 v1 : Nat) : Spec Tryz.prog 115 [.ref 0 vb 3 0 0] [⟨vb, .obj [.ref 1 v0 6 0 0, .val (.int .i64 (a : Int)), .val (.int .i64 (c : Int))]⟩, ⟨v0, .obj [.own 2 v1 1 0 s.l.length, .val (.int .i64 (s.k : Int)), .val (.int .i64 s.ar), .val (.int .i64 s.pt), .val (.bool s.dd), .val (.int .i64 s.wr)]⟩, ⟨v1, .bytes s.l⟩]
   (ak (.al [.val (.slice none 0 0),.val (.int .i64 0),.val (.bool false),.val (.int .i64 6)]) [⟨vb,.obj [.ref 1 v0 6 0 0,.val (.int .i64 (a:Int)),.val (.int .i64 (c:Int))]⟩,⟨v0,.obj [.own 2 v1 1 0 s.l.length,.val (.int .i64 (s.k:Int)),.val (.int .i64 s.ar),.val (.int .i64 s.pt),.val (.bool s.dd),.val (.int .i64 s.wr)]⟩,⟨v1,.bytes s.l⟩] []):=by
 refine aq aj Tryz.func115 rfl Tryz.ntmps115 Tryz.results115 ?_
 refine gg (k:= ?_)
 refine ae (zz s a c g p hd vb v0 v1) Tryz.call121 3 [0,1,2] [0,0,0] [] ?_
 refine gg (k:= ?_)
 exact⟨_,rfl,rfl,trivial⟩
theorem vA {W : Int} {n k : Nat} (s : J) (a c : Nat) (g : av W n k s) (p : aC n k a c) (hd : s.dd = false) (L : Nat) (hL : L = (s.scan a c).1.length) (vb v0 v1 : Nat) : Spec Tryz.prog 115 [.ref 0 vb 3 0 0] [⟨vb, .obj [.ref 1 v0 6 0 0, .val (.int .i64 (a : Int)), .val (.int .i64 (c : Int))]⟩, ⟨v0, .obj [.own 2 v1 1 0 s.l.length, .val (.int .i64 (s.k : Int)), .val (.int .i64 s.ar), .val (.int .i64 s.pt), .val (.bool s.dd), .val (.int .i64 s.wr)]⟩, ⟨v1, .bytes s.l⟩]
   (ak (.al [.own 13 (L+2) 3 0 L,.val (.int .i64 ((s.scan a c).2.1:Int)),.val (.bool (s.scan a c).2.2),.val (.int .i64 0)]) [⟨vb,.obj [.ref 1 v0 6 0 0,.val (.int .i64 (a:Int)),.val (.int .i64 (c:Int))]⟩,⟨v0,.obj [.own 2 v1 1 0 s.l.length,.val (.int .i64 (s.k:Int)),.val (.int .i64 s.ar),.val (.int .i64 s.pt),.val (.bool s.dd),.val (.int .i64 s.wr)]⟩,⟨v1,.bytes s.l⟩]
    [(13,⟨L+2,.row 3 (bO 14 2) ⟨0,0,0,false⟩ (bK 0 (s.scan a c).1)⟩),(14,⟨2,.aB (cV (s.scan a c).1)⟩)]):=by
 subst hL
 have hx:s.bE a c=(s.l.drop (a*k)).take (c*k):=by unfold J.bE;rw[g.k]
 refine aq aj Tryz.func115 rfl Tryz.ntmps115 Tryz.results115 ?_
 refine gg (k:= ?_)
 refine ae (zx s a c g p hd _ hx vb v0 v1) Tryz.call121 (he:=⟨fun _=>⟨rfl,rfl,trivial,trivial⟩,fun _=>⟨trivial,trivial⟩,trivial,trivial⟩) 3 [0,1,2,0,0,0,0,0,0,0,0,0,0,0,0,0,0,0,0,0,0,0,0,0,0,0,0,0,0,0,0,0,0,0,0,0,0,0,0,0,0,0,0,0,0,0,0,0,0,0,0,0,0,0,0,0,0,0,0,0,0,0,0,0,0,0,0,0,0,0,0,0,0,0,0,0,0,0,0,0,0,0,0,0,0,0,0,0,0,0,0,0,0,0,13,0,0,0,15,0,0,0,0,0,14] [0,0,0,0,0,0,0,0,0,0,0,0,0,0,0,0,0,0,0,0,0,0,0,0,0,0,0,0,0,0,0,0,0,0,0,0,0,0,0,0,0,0,0,0,0,0,0,0,0,0,0,0,0,0,0,0,0,0,0,0,0,0,0,0,0,0,0,0,0,0,0,0,0,0,0,0,0,0,0,0,0,0,0,0,0,0,0,0,0,0,0,0,0,0,1,0,0,0,1,0,0,0,0,0,1] [94,98,104] ?_
 refine gg (k:= ?_)
 exact⟨_,rfl,rfl,rfl,rfl,trivial⟩
theorem pA(x:List UInt8):∀(n a:Nat),x.length - a=n→(∀r∈(bj x a).1,r.at_<x.length)∧(a≤x.length→(bj x a).2.1≤x.length):=by
 intro n
 induction n using Nat.strongRecOn with
 | _ n ih=>
  intro a ha
  by_cases h:a<x.length∧x.getD a 0≠255
  ·by_cases hr:dU (x.drop a)
   ·rw[pj h hr]
    have hN:=pn (x.drop a)
    obtain⟨h1,h2⟩:=ih (x.length - (a+bU (x.drop a))) (by omega) (a+bU (x.drop a)) rfl
    refine⟨fun r hm=> ?_,fun _=>h2 ?_⟩
    ·rcases List.mem_cons.1 hm with rfl | hm
     ·exact h.1
     ·exact h1 r hm
    ·have:=hr.2.2.2.2.2.1
     rw[List.length_drop] at this;omega
   ·rw[po h hr]
    exact⟨by simp,fun h=>h⟩
  ·rw[nT h]
   exact⟨by simp,fun h=>h⟩
def J.kill(s:J)(a c:Nat)(i:Int):Int×J:=if s.dd then(6,s) else if i<0∨((s.scan a c).1.length:Int)≤i then(1,s) else s.prog ((a:Int)*s.k+(((s.scan a c).1.map fun r=>(r.at_:Int)).getD i.toNat 0)) [248]
theorem jC {W : Int} {n k : Nat} (s : J) (a c : Nat) (g : av W n k s) (hW : W ≤ 9000000000000000000) (p : aC n k a c) (i : Int) (hi : aG i) (vb v0 v1 : Nat) : Spec Tryz.prog 83 [.ref 0 vb 3 0 0, .val (.int .i64 i)] [⟨vb, .obj [.ref 1 v0 6 0 0, .val (.int .i64 (a : Int)), .val (.int .i64 (c : Int))]⟩, ⟨v0, .obj [.own 2 v1 1 0 s.l.length, .val (.int .i64 (s.k : Int)), .val (.int .i64 s.ar), .val (.int .i64 s.pt), .val (.bool s.dd), .val (.int .i64 s.wr)]⟩, ⟨v1, .bytes s.l⟩]
   (ak (.val (.int .i64 (s.kill a c i).1)) [⟨vb,.obj [.ref 1 v0 6 0 0,.val (.int .i64 (a:Int)),.val (.int .i64 (c:Int))]⟩,⟨v0,.obj [.own 2 v1 1 0 (s.kill a c i).2.l.length,.val (.int .i64 ((s.kill a c i).2.k:Int)),.val (.int .i64 (s.kill a c i).2.ar),.val (.int .i64 (s.kill a c i).2.pt),.val (.bool (s.kill a c i).2.dd),.val (.int .i64 (s.kill a c i).2.wr)]⟩,⟨v1,.bytes (s.kill a c i).2.l⟩] []):=by
 have hx:s.bE a c=(s.l.drop (a*k)).take (c*k):=by unfold J.bE;rw[g.k]
 have hb:=g.eZ p
 have s8:=hb.int
 have ij:=hb.len
 have hw:=g.wr
 refine aq aj Tryz.func83 rfl Tryz.ntmps83 Tryz.results83 ?_
 refine gg (k:= ?_)
 by_cases hd:s.dd=true
 ·refine ae (zz s a c g p hd vb v0 v1) Tryz.call121 3 [0,1,2] [0,0,0] [] ?_
  refine gg (k:= ?_)
  have hf:s.kill a c i=(6,s):=by unfold J.kill;rw[hd];rfl
  rw[hf]
  exact⟨_,rfl,rfl,trivial⟩
 ·have hd:s.dd=false:=by simpa using hd
  refine ae (zx s a c g p hd _ hx vb v0 v1) Tryz.call121 (he:=⟨fun _=>⟨rfl,rfl,trivial,trivial⟩,fun _=>⟨trivial,trivial⟩,trivial,trivial⟩) 3 [0,1,2,0,0,0,0,0,0,0,0,0,0,0,0,0,0,0,0,0,0,0,0,0,0,0,0,0,0,0,0,0,0,0,0,0,0,0,0,0,0,0,0,0,0,0,0,0,0,0,0,0,0,0,0,0,0,0,0,0,0,0,0,0,0,0,0,0,0,0,0,0,0,0,0,0,0,0,0,0,0,0,0,0,0,0,0,0,0,0,0,0,0,0,17,0,0,0,18,0,0,0,0,0,19] [0,0,0,0,0,0,0,0,0,0,0,0,0,0,0,0,0,0,0,0,0,0,0,0,0,0,0,0,0,0,0,0,0,0,0,0,0,0,0,0,0,0,0,0,0,0,0,0,0,0,0,0,0,0,0,0,0,0,0,0,0,0,0,0,0,0,0,0,0,0,0,0,0,0,0,0,0,0,0,0,0,0,0,0,0,0,0,0,0,0,0,0,0,0,1,0,0,0,1,0,0,0,0,0,1] [94,98,104] ?_
  refine gg (k:= ?_)
  refine⟨fun h=> ?_,fun h=> ?_⟩
  ·have hc:i<0∨((s.scan a c).1.length:Int)≤i:=by
     rw[Bool.or_eq_true,decide_eq_true_eq,decide_eq_true_eq] at h;exact h
   refine gg (k:= ?_)
   have hf:s.kill a c i=(1,s):=by unfold J.kill;rw[hd,if_pos hc];rfl
   rw[hf]
   exact⟨_,rfl,rfl,trivial⟩
  ·have hc:¬(i<0∨((s.scan a c).1.length:Int)≤i):=by
     rw[Bool.or_eq_false_iff,decide_eq_false_iff_not,decide_eq_false_iff_not] at h;exact fun q=>q.elim h.1 h.2
   have eG:0≤i∧i< ((bj (s.bE a c) 16).1.length:Int):=by unfold J.scan at hc;omega
   have KX:(s.bE a c).length≤s.l.length:=by unfold J.bE;rw[List.length_take,List.length_drop];omega
   have cS:0≤((bj (s.bE a c) 16).1.map fun r=>(r.at_:Int)).getD (0+i.toNat) 0∧((bj (s.bE a c) 16).1.map fun r=>(r.at_:Int)).getD (0+i.toNat) 0≤s.l.length:=by
    have ai:0+i.toNat< (bj (s.bE a c) 16).1.length:=by omega
    rw[List.getD_eq_getElem?_getD,List.getElem?_map,List.getElem?_eq_getElem ai]
    have:=(pA (s.bE a c) _ 16 rfl).1 _ (List.getElem_mem ai)
    simp only[Option.map_some,Option.getD_some]
    omega
   have fA:=g.len
   have eA:=g.l
   refine gg (k:= ?_)
   (refine ax (k:= ?_))
   refine And.intro ⟨rfl,⟨rfl,by rw[List.length_map];omega⟩,trivial⟩ ?_
   refine gg (k:= ?_)
   refine ae (qT s a c hb (((bj (s.bE a c) 16).1.map fun r=>(r.at_:Int)).getD (0+i.toNat) 0) (by unfold aG;omega) [248] 1 rfl (by decide) g.ar ⟨by omega,by show s.wr+1<_;omega⟩ vb v0 v1 1) Tryz.call123 4 [0,1,2,41] [0,0,0,0] [] ?_
   refine gg (k:= ?_)
   have hf:s.kill a c i=s.prog ((a:Int)*s.k+(((bj (s.bE a c) 16).1.map fun r=>(r.at_:Int)).getD (0+i.toNat) 0)) [248]:=by
    unfold J.kill;rw[hd,if_neg hc,Nat.zero_add];rfl
   rw[hf]
   exact⟨_,rfl,rfl,trivial⟩
end Go.Proofs.YtpbpiehcchannaaGreatDoor
namespace Go.Proofs.YtpbpiehcchannaaGreatDoor
open Go.RowKit
set_option linter.unusedVariables false
set_option linter.unusedSimpArgs false
set_option maxRecDepth 100000
set_option maxHeartbeats 1500000
def J.iE(s:J)(q:Int)(k v:List UInt8):Int×J:=
 if(s.prog q [254]).1≠0 then s.prog q [254]
 else if((s.prog q [254]).2.prog (q+1) (bA k v)).1≠0 then(s.prog q [254]).2.prog (q+1) (bA k v)
 else((s.prog q [254]).2.prog (q+1) (bA k v)).2.prog q [252]
def J.add(s:J)(a c:Nat)(k v:List UInt8):Int×J:=
 if k.length<1∨255<k.length∨65536<v.length then(1,s)
 else if s.dd then(6,s)
 else if(s.scan a c).2.2=false then(12,s)
 else if(c:Int)*s.k - ((s.scan a c).2.1:Int)<12+k.length+v.length then(5,s)
 else s.iE ((a:Int)*s.k+((s.scan a c).2.1:Int)) k v
theorem lh {W : Int} {n k : Nat} (s : J) (a c : Nat) (g : av W n k s) (hW : W ≤ 9000000000000000000) (p : aC n k a c) (key val : List UInt8) (cE : key.length ≤ 140737488355328) (dp : val.length ≤ 140737488355328) (z z' : Nat) (vb v0 v1 : Nat) : Spec Tryz.prog 81 [.ref 0 vb 3 0 0, .bs z key, .bs z' val] [⟨vb, .obj [.ref 1 v0 6 0 0, .val (.int .i64 (a : Int)), .val (.int .i64 (c : Int))]⟩, ⟨v0, .obj [.own 2 v1 1 0 s.l.length, .val (.int .i64 (s.k : Int)), .val (.int .i64 s.ar), .val (.int .i64 s.pt), .val (.bool s.dd), .val (.int .i64 s.wr)]⟩, ⟨v1, .bytes s.l⟩]
   (ak (.val (.int .i64 (s.add a c key val).1)) [⟨vb,.obj [.ref 1 v0 6 0 0,.val (.int .i64 (a:Int)),.val (.int .i64 (c:Int))]⟩,⟨v0,.obj [.own 2 v1 1 0 (s.add a c key val).2.l.length,.val (.int .i64 ((s.add a c key val).2.k:Int)),.val (.int .i64 (s.add a c key val).2.ar),.val (.int .i64 (s.add a c key val).2.pt),.val (.bool (s.add a c key val).2.dd),.val (.int .i64 (s.add a c key val).2.wr)]⟩,⟨v1,.bytes (s.add a c key val).2.l⟩] []):=by
 have hx:s.bE a c=(s.l.drop (a*k)).take (c*k):=by unfold J.bE;rw[g.k]
 have hb:=g.eZ p
 have s8:=hb.int
 have ij:=hb.len
 have hw:=g.wr
 refine aq aj Tryz.func81 rfl Tryz.ntmps81 Tryz.results81 ?_
 refine gg (k:= ?_)
 refine⟨fun h=> ?_,fun h=> ?_⟩
 ·have hc:key.length<1∨255<key.length∨65536<val.length:=by
    simp only[Bool.or_eq_true,decide_eq_true_eq] at h;omega
  refine gg (k:= ?_)
  have hf:s.add a c key val=(1,s):=by unfold J.add;rw[if_pos hc]
  rw[hf]
  exact⟨_,rfl,rfl,trivial⟩
 have hc:¬(key.length<1∨255<key.length∨65536<val.length):=by
  simp only[Bool.or_eq_false_iff,decide_eq_false_iff_not] at h;omega
 refine gg (k:= ?_)
 by_cases hd:s.dd=true
 ·refine ae (zz s a c g p hd vb v0 v1) Tryz.call121 3 [0,1,2] [0,0,0] [] ?_
  refine gg (k:= ?_)
  have hf:s.add a c key val=(6,s):=by unfold J.add;rw[if_neg hc,if_pos hd]
  rw[hf]
  exact⟨_,rfl,rfl,trivial⟩
 have hd:s.dd=false:=by simpa using hd
 refine ae (zx s a c g p hd _ hx vb v0 v1) Tryz.call121 (he:=⟨fun _=>⟨rfl,rfl,trivial,trivial⟩,fun _=>⟨trivial,trivial⟩,trivial,trivial⟩) 3 [0,1,2,0,0,0,0,0,0,0,0,0,0,0,0,0,0,0,0,0,0,0,0,0,0,0,0,0,0,0,0,0,0,0,0,0,0,0,0,0,0,0,0,0,0,0,0,0,0,0,0,0,0,0,0,0,0,0,0,0,0,0,0,0,0,0,0,0,0,0,0,0,0,0,0,0,0,0,0,0,0,0,0,0,0,0,0,0,0,0,0,0,0,0,36,0,0,0,37,0,0,0,0,0,38] [0,0,0,0,0,0,0,0,0,0,0,0,0,0,0,0,0,0,0,0,0,0,0,0,0,0,0,0,0,0,0,0,0,0,0,0,0,0,0,0,0,0,0,0,0,0,0,0,0,0,0,0,0,0,0,0,0,0,0,0,0,0,0,0,0,0,0,0,0,0,0,0,0,0,0,0,0,0,0,0,0,0,0,0,0,0,0,0,0,0,0,0,0,0,1,0,0,0,1,0,0,0,0,0,1] [94,98,104] ?_
 refine gg (k:= ?_)
 have eC:s.scan a c=bj (s.bE a c) 16:=rfl
 have gP:(s.bE a c).length=c*k:=by
  rw[hx,List.length_take,List.length_drop];have:=p.fit;have:=g.l;omega
 have eO:=p.fa
 have iA:=(pA (s.bE a c) _ 16 rfl).2 (by omega)
 generalize bj (s.bE a c) 16=S at eC iA
 obtain⟨be,e,wh⟩:=S
 simp only at iA
 have hle:(e:Int)≤(c:Int)*s.k:=by
  rw[g.k]
  have he:e≤c*k:=by omega
  exact_mod_cast he
 dsimp only
 have qR:key.length≤255∧1≤key.length∧val.length≤65536:=by omega
 refine⟨fun h=> ?_,fun h=> ?_⟩
 ·have ka:wh=false:=by simpa using h
  refine gg (k:= ?_)
  have hf:s.add a c key val=(12,s):=by unfold J.add;rw[if_neg hc,hd,eC];simp[ka]
  rw[hf]
  exact⟨_,rfl,rfl,trivial⟩
 have ka:wh=true:=by simpa using h
 refine gg (k:= ?_)
 refine aP (qM key.length val.length (by omega) (by omega)) Tryz.call78 [] ?_
 refine gg (k:= ?_)
 refine aP (vz s a c hb vb v0 v1) Tryz.call122 [0,1,2] ?_
 refine gg (k:= ?_)
 refine⟨fun h=> ?_,fun h=> ?_⟩
 ·have jO:(c:Int)*s.k - (e:Int)<12+key.length+val.length:=of_decide_eq_true h
  refine gg (k:= ?_)
  have hf:s.add a c key val=(5,s):=by unfold J.add;rw[if_neg hc,hd,eC];simp[ka,jO]
  rw[hf]
  exact⟨_,rfl,rfl,trivial⟩
 have kf:¬((c:Int)*s.k - (e:Int)<12+key.length+val.length):=of_decide_eq_false h
 have hf:s.add a c key val=s.iE ((a:Int)*s.k+(e:Int)) key val:=by unfold J.add;rw[if_neg hc,hd,eC];simp[ka,kf]
 have g1:=g.prog ((a:Int)*s.k+(e:Int)) [254]
 have eo:=g1.eZ p
 have kv:(s.prog ((a:Int)*s.k+(e:Int)) [254]).2.k=s.k:=by rw[g1.k,g.k]
 have fD:([254]:List UInt8).length=1:=rfl
 have KY:=pw key val
 have g2:=g1.prog ((a:Int)*s.k+(e:Int)+1) (bA key val)
 have gY:=g1.wr
 have gp:=g2.wr
 have jF:=g2.eZ p
 refine gg (k:= ?_)
 refine ae (qT s a c hb (e:Int) (by unfold aG;omega) [254] 1 rfl (by decide) g.ar ⟨by omega,by show s.wr+1<_;omega⟩ vb v0 v1 1) Tryz.call123 4 [0,1,2,62] [0,0,0,0] [] ?_
 refine gg (k:= ?_)
 have oW:(a:Int)*((s.prog ((a:Int)*s.k+(e:Int)) [254]).2.k:Int)+((e:Int)+1)=(a:Int)*s.k+(e:Int)+1:=by rw[kv,←Int.add_assoc]
 have sE:((s.prog ((a:Int)*s.k+(e:Int)) [254]).2.prog ((a:Int)*s.k+(e:Int)+1) (bA key val)).2.k=s.k:=by rw[g2.k,g.k]
 have mC:(a:Int)*(((s.prog ((a:Int)*s.k+(e:Int)) [254]).2.prog ((a:Int)*s.k+(e:Int)+1) (bA key val)).2.k:Int)+(e:Int)=(a:Int)*s.k+(e:Int):=by rw[sE]
 refine⟨fun h=> ?_,fun h=> ?_⟩
 ·have aF:(s.prog ((a:Int)*s.k+(e:Int)) [254]).1≠0:=by simpa using h
  refine gg (k:= ?_)
  rw[hf];unfold J.iE;rw[if_pos aF]
  exact⟨_,rfl,rfl,trivial⟩
 have iv:(s.prog ((a:Int)*s.k+(e:Int)) [254]).1=0:=by simpa using h
 refine gg (k:= ?_)
 refine ae (DV key val (by omega) (by omega) z z') Tryz.call124 0 [0,0,0,0,0,0,0,0,0,0,0,0,0,0,0,0,0,0,0,0,0,0,0,0,0,0,0,0,0,0,72] [0,0,0,0,0,0,0,0,0,0,0,0,0,0,0,0,0,0,0,0,0,0,0,0,0,0,0,0,0,0,1] [30] ?_
 refine gg (k:= ?_)
 refine ae (qT (s.prog ((a:Int)*s.k+(e:Int)) [254]).2 a c eo ((e:Int)+1) (by rw[oW];unfold aG;omega) (bA key val) (bA key val).length rfl (by omega) g1.ar ⟨by omega,by omega⟩ vb v0 v1 8) Tryz.call123 4 [0,1,2,72] [0,0,0,0] [] ?_
 rw[oW]
 refine gg (k:= ?_)
 refine⟨fun h=> ?_,fun h=> ?_⟩
 ·have aF:((s.prog ((a:Int)*s.k+(e:Int)) [254]).2.prog ((a:Int)*s.k+(e:Int)+1) (bA key val)).1≠0:=by simpa using h
  refine gg (k:= ?_)
  rw[hf];unfold J.iE;rw[if_neg (fun q=>q iv),if_pos aF]
  exact⟨_,rfl,rfl,trivial⟩
 have qt:((s.prog ((a:Int)*s.k+(e:Int)) [254]).2.prog ((a:Int)*s.k+(e:Int)+1) (bA key val)).1=0:=by simpa using h
 refine gg (k:= ?_)
 refine ae (qT ((s.prog ((a:Int)*s.k+(e:Int)) [254]).2.prog ((a:Int)*s.k+(e:Int)+1) (bA key val)).2 a c jF (e:Int) (by rw[mC];unfold aG;omega) [252] 1 rfl (by decide) g2.ar ⟨by omega,by show _+(1:Int)<_;omega⟩ vb v0 v1 1) Tryz.call123 4 [0,1,2,79] [0,0,0,0] [] ?_
 rw[mC]
 refine gg (k:= ?_)
 rw[hf];unfold J.iE;rw[if_neg (fun q=>q iv),if_neg (fun q=>q qt)]
 exact⟨_,rfl,rfl,trivial⟩
end Go.Proofs.YtpbpiehcchannaaGreatDoor
