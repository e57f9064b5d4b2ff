/- Walks of bank: size, read, program, Room, Ready. Walks of bank: Ready, Head, Format. Walks of bank: each, scan. Walks of bank: Scan, Kill, Add. Walks of bank: Add. Conditions: the premises of each law. -/
import Derived.Test.YtpbpiehcchannaaGreatDoorJGa
namespace Go.Proofs.YtpbpiehcchannaaGreatDoor
set_option linter.unusedVariables false
set_option linter.unusedSimpArgs false
set_option maxRecDepth 100000
set_option maxHeartbeats 1500000
open Go.RowKit
structure ph(s:U)(a c:Nat):Prop where
 len:s.l.length≤140737488355328
 k:0<s.k∧s.k≤65536
 fit:a*s.k+c*s.k≤s.l.length
 ac:a≤140737488355328∧c≤140737488355328
theorem ph.int{s:U}{a c:Nat}(h:ph s a c):0≤(a:Int)*(s.k:Int)∧0≤(c:Int)*(s.k:Int)∧(a:Int)*(s.k:Int)+(c:Int)*(s.k:Int)≤s.l.length:=by
 have:=h.fit
 refine⟨by exact_mod_cast Nat.zero_le _,by exact_mod_cast Nat.zero_le _,by exact_mod_cast this⟩
theorem yf(s:U)(a c:Nat)(h:ph s a c)(vb v0 v1:Nat):Spec Tryz.prog 122 [.ref 0 vb 3 0 0] [⟨vb,.obj [.ref 1 v0 6 0 0,.val (.int .i64 (a:Int)),.val (.int .i64 (c:Int))]⟩,⟨v0,.obj [.own 2 v1 1 0 s.l.length,.val (.int .i64 (s.k:Int)),.val (.int .i64 s.ar),.val (.int .i64 s.pt),.val (.bool s.dd),.val (.int .i64 s.wr)]⟩,⟨v1,.bytes s.l⟩] (bZ (.val (.int .i64 ((c:Int)*s.k))) [⟨vb,.obj [.ref 1 v0 6 0 0,.val (.int .i64 (a:Int)),.val (.int .i64 (c:Int))]⟩,⟨v0,.obj [.own 2 v1 1 0 s.l.length,.val (.int .i64 (s.k:Int)),.val (.int .i64 s.ar),.val (.int .i64 s.pt),.val (.bool s.dd),.val (.int .i64 s.wr)]⟩,⟨v1,.bytes s.l⟩]):=by
 have hi:=h.int
 have hl:=h.len
 refine ax ai Tryz.func122 rfl Tryz.ntmps122 Tryz.results122 ?_
 refine gg ?_
 (refine aH ?_)
 refine bL (p:=3) ai hm [0,1,3,7,0,16,48,112,240,511,1023] [⟨0,false,false,[]⟩,⟨1,true,false,[5,6,7,8,9,10,11,12,2]⟩,⟨2,true,false,[6,7,8,9,10,11,12,2]⟩,⟨3,true,false,[7,8,9,10,11,12,2]⟩,⟨4,false,false,[]⟩,⟨5,true,false,[3,4,5,6,9,10,11,12,2]⟩,⟨6,true,false,[3,4,5,6,10,11,12,2]⟩,⟨7,true,false,[3,4,5,6,11,12,2]⟩,⟨8,true,false,[3,4,5,6,12,2]⟩,⟨9,false,false,[]⟩,⟨10,false,false,[]⟩] (by kernel_rfl) ?_
 refine gg ?_
 refine aY (vD s v0 v1) Tryz.call67 [1,2] ?_
 refine gg ?_
 exact⟨_,rfl,rfl⟩
theorem Oc(s:U)(a c:Nat)(h:ph s a c)(vb v0 v1:Nat):Spec Tryz.prog 85 [.ref 0 vb 3 0 0] [⟨vb,.obj [.ref 1 v0 6 0 0,.val (.int .i64 (a:Int)),.val (.int .i64 (c:Int))]⟩,⟨v0,.obj [.own 2 v1 1 0 s.l.length,.val (.int .i64 (s.k:Int)),.val (.int .i64 s.ar),.val (.int .i64 s.pt),.val (.bool s.dd),.val (.int .i64 s.wr)]⟩,⟨v1,.bytes s.l⟩] (bZ (.val (.int .i64 ((c:Int)*s.k - 16))) [⟨vb,.obj [.ref 1 v0 6 0 0,.val (.int .i64 (a:Int)),.val (.int .i64 (c:Int))]⟩,⟨v0,.obj [.own 2 v1 1 0 s.l.length,.val (.int .i64 (s.k:Int)),.val (.int .i64 s.ar),.val (.int .i64 s.pt),.val (.bool s.dd),.val (.int .i64 s.wr)]⟩,⟨v1,.bytes s.l⟩]):=by
 have hi:=h.int
 have hl:=h.len
 refine ax ai Tryz.func85 rfl Tryz.ntmps85 Tryz.results85 ?_
 refine gg ?_
 refine aY (yf s a c h vb v0 v1) Tryz.call122 [0,1,2] ?_
 refine gg ?_
 exact⟨_,rfl,rfl⟩
theorem Cm (s : U) (a c : Nat) (h : ph s a c) (n : Int) (hn : aX n) (vb v0 v1 : Nat) : Spec Tryz.prog 156 [.ref 0 vb 3 0 0, .val (.int .i64 n)] [⟨vb, .obj [.ref 1 v0 6 0 0, .val (.int .i64 (a : Int)), .val (.int .i64 (c : Int))]⟩, ⟨v0, .obj [.own 2 v1 1 0 s.l.length, .val (.int .i64 (s.k : Int)), .val (.int .i64 s.ar), .val (.int .i64 s.pt), .val (.bool s.dd), .val (.int .i64 s.wr)]⟩, ⟨v1, .bytes s.l⟩]
   (ak (.aD [.own 24 4 1 0 (s.read ((a:Int)*s.k) n).2.length,.val (.int .i64 (s.read ((a:Int)*s.k) n).1)]) [⟨vb,.obj [.ref 1 v0 6 0 0,.val (.int .i64 (a:Int)),.val (.int .i64 (c:Int))]⟩,⟨v0,.obj [.own 2 v1 1 0 s.l.length,.val (.int .i64 (s.k:Int)),.val (.int .i64 s.ar),.val (.int .i64 s.pt),.val (.bool s.dd),.val (.int .i64 s.wr)]⟩,⟨v1,.bytes s.l⟩] [(24,⟨4,.bytes (s.read ((a:Int)*s.k) n).2⟩)]):=by
 have hi:=h.int
 have hl:=h.len
 refine ax ai Tryz.func156 rfl Tryz.ntmps156 Tryz.results156 ?_
 refine gg ?_
 (refine aH ?_)
 refine bL (p:=3) ai hm [0,1,3,7,0,16,48,112,0,256,768,1792,3840,8176,0,32767,65535,65535,262143,524287] [⟨0,false,false,[]⟩,⟨1,true,false,[8,9,10,11,12,13,14,15,16,17,18,19,20,21,22,23,4,5]⟩,⟨2,true,false,[9,10,11,12,13,14,15,16,17,18,19,20,21,22,23,4,5]⟩,⟨3,true,false,[10,11,12,13,14,15,16,17,18,19,20,21,22,23,4,5]⟩,⟨4,false,false,[]⟩,⟨5,true,false,[6,7,8,9,12,13,14,15,16,17,18,19,20,21,22,23,4,5]⟩,⟨6,true,false,[6,7,8,9,13,14,15,16,17,18,19,20,21,22,23,4,5]⟩,⟨7,true,false,[6,7,8,9,14,15,16,17,18,19,20,21,22,23,4,5]⟩,⟨8,false,false,[]⟩,⟨9,true,false,[6,7,8,9,10,11,12,13,16,17,18,19,20,21,22,23,4,5]⟩,⟨10,true,false,[6,7,8,9,10,11,12,13,17,18,19,20,21,22,23,4,5]⟩,⟨11,true,false,[6,7,8,9,10,11,12,13,18,19,20,21,22,23,4,5]⟩,⟨14,false,false,[]⟩,⟨12,true,false,[6,7,8,9,10,11,12,13,19,20,21,22,23,4,5]⟩,⟨13,false,false,[]⟩,⟨15,true,true,[22,23,4,5]⟩,⟨16,false,false,[]⟩,⟨17,false,false,[]⟩,⟨18,false,false,[]⟩,⟨19,false,false,[]⟩] (by kernel_rfl) ?_
 refine gg ?_
 refine aY (vD s v0 v1) Tryz.call67 [1,2] ?_
 refine gg ?_
 refine af (N8 s hl ((a:Int)*s.k) n (by unfold aX;omega) hn v0 v1) Tryz.call188 2 [1,2,0,0,0,0,0,0,0,0,0,0,0,0,0,0,0,0,0,0,0,0,0,0,0,0,0,0,0,0,24] [0,0,0,0,0,0,0,0,0,0,0,0,0,0,0,0,0,0,0,0,0,0,0,0,0,0,0,0,0,0,1] [30] ?_
 refine gg ?_
 exact⟨_,rfl,rfl,rfl,trivial⟩
theorem Od (s : U) (a c : Nat) (h : ph s a c) (at_ : Int) (ha : aX (a * s.k + at_)) (m : List UInt8) (fu : m.length ≤ 140737488355328) (kb : aX s.ar) (kc : 0 ≤ s.wr ∧ s.wr + m.length < 9223372036854775807) (z : Nat) (vb v0 v1 : Nat) : Spec Tryz.prog 123 [.ref 0 vb 3 0 0, .val (.int .i64 at_), .bs z m] [⟨vb, .obj [.ref 1 v0 6 0 0, .val (.int .i64 (a : Int)), .val (.int .i64 (c : Int))]⟩, ⟨v0, .obj [.own 2 v1 1 0 s.l.length, .val (.int .i64 (s.k : Int)), .val (.int .i64 s.ar), .val (.int .i64 s.pt), .val (.bool s.dd), .val (.int .i64 s.wr)]⟩, ⟨v1, .bytes s.l⟩]
   (bZ (.val (.int .i64 (s.prog ((a:Int)*s.k+at_) m).1)) [⟨vb,.obj [.ref 1 v0 6 0 0,.val (.int .i64 (a:Int)),.val (.int .i64 (c:Int))]⟩,⟨v0,.obj [.own 2 v1 1 0 (s.prog ((a:Int)*s.k+at_) m).2.l.length,.val (.int .i64 ((s.prog ((a:Int)*s.k+at_) m).2.k:Int)),.val (.int .i64 (s.prog ((a:Int)*s.k+at_) m).2.ar),.val (.int .i64 (s.prog ((a:Int)*s.k+at_) m).2.pt),.val (.bool (s.prog ((a:Int)*s.k+at_) m).2.dd),.val (.int .i64 (s.prog ((a:Int)*s.k+at_) m).2.wr)]⟩,⟨v1,.bytes (s.prog ((a:Int)*s.k+at_) m).2.l⟩]):=by
 have hi:=h.int
 have hl:=h.len
 refine ax ai Tryz.func123 rfl Tryz.ntmps123 Tryz.results123 ?_
 refine gg ?_
 (refine aH ?_)
 refine bL (p:=3) ai hm [0,1,3,7,0,16,48,112,0,256,768,1792,3840,8176,0,32752,0,131071,262143] [⟨0,false,false,[]⟩,⟨1,true,false,[9,10,11,12,13,14,15,16,17,18,19,20,21,22,23,24,6]⟩,⟨2,true,false,[10,11,12,13,14,15,16,17,18,19,20,21,22,23,24,6]⟩,⟨3,true,false,[11,12,13,14,15,16,17,18,19,20,21,22,23,24,6]⟩,⟨4,false,false,[]⟩,⟨5,true,false,[7,8,9,10,13,14,15,16,17,18,19,20,21,22,23,24,6]⟩,⟨6,true,false,[7,8,9,10,14,15,16,17,18,19,20,21,22,23,24,6]⟩,⟨7,true,false,[7,8,9,10,15,16,17,18,19,20,21,22,23,24,6]⟩,⟨8,false,false,[]⟩,⟨9,true,false,[7,8,9,10,11,12,13,14,17,18,19,20,21,22,23,24,6]⟩,⟨10,true,false,[7,8,9,10,11,12,13,14,18,19,20,21,22,23,24,6]⟩,⟨11,true,false,[7,8,9,10,11,12,13,14,19,20,21,22,23,24,6]⟩,⟨14,false,false,[]⟩,⟨16,false,false,[]⟩,⟨12,true,false,[7,8,9,10,11,12,13,14,20,21,22,23,24,6]⟩,⟨13,false,false,[]⟩,⟨15,false,false,[]⟩,⟨17,true,true,[6]⟩,⟨18,false,false,[]⟩] (by kernel_rfl) ?_
 refine gg ?_
 refine aY (vD s v0 v1) Tryz.call67 [1,2] ?_
 refine gg ?_
 refine aY (N9 s hl ((a:Int)*s.k+at_) ha m fu kb kc z v0 v1) Tryz.call165 [1,2] ?_
 refine gg ?_
 exact⟨_,rfl,rfl⟩
theorem Ha:∀(m:List UInt8)(k:Nat)(c:List UInt8)(left w:Int),aX left→aX (eV m k c left w).2.2.1∧w≤(eV m k c left w).2.2.2.2∧(eV m k c left w).2.2.2.2≤w+m.length
 | [],_,_,_,_,h=>⟨h,by simp[eV],by simp[eV]⟩
 | b::m,k,c,left,w,h=>by
  rw[eV]
  split
  ·refine⟨?_,?_,?_⟩
   ·simp only[aX] at*;omega
   ·simp
   ·simp only[List.length_cons];omega
  ·obtain⟨h1,h2,h3⟩:=Ha m (k+1) (c.set k (c.getD k 0&&&b)) (if 0<left then left - 1 else left) (w+1) (by simp only[aX] at*;split<;>omega)
   refine⟨h1,by omega,?_⟩
   simp only[List.length_cons]
   omega
structure aw(B:Int)(n k:Nat)(s:U):Prop where
 len:n≤4194304
 kk:0<k∧k≤65536
 ar:aX s.ar
 pt:0≤s.pt∧aX s.pt
 wr:0≤s.wr∧s.wr≤B
 l:s.l.length=n
 k:s.k=k
theorem aw.mono{B B':Int}{n k:Nat}{s:U}(h:aw B n k s)(hB:B≤B'):aw B' n k s:=
 ⟨h.len,h.kk,h.ar,h.pt,⟨h.wr.1,by have:=h.wr.2;omega⟩,h.l,h.k⟩
theorem aw.prog{B:Int}{n k:Nat}{s:U}(h:aw B n k s)(a:Int)(b:List UInt8):aw (B+b.length) n k (s.prog a b).2:=by
 unfold U.prog
 split
 ·exact h.mono (by omega)
 ·split
  ·obtain⟨h1,h2,h3⟩:=Ha b a.toNat s.l s.ar s.wr h.ar
   have:=h.wr
   refine⟨h.len,h.kk,h1,h.pt,⟨?_,?_⟩,?_,h.k⟩
   ·simp only;omega
   ·simp only;omega
   ·simp only[Cj];exact h.l
  ·exact h.mono (by omega)
theorem aw.erase{B:Int}{n k:Nat}{s:U}(h:aw B n k s)(a:Int):aw (B+1) n k (s.erase a).2:=by
 unfold U.erase
 split
 ·exact h.mono (by omega)
 ·split
  ·have h0:=h.ar
   have h1:=h.wr
   have hl:(if s.goes=true then iv s.l (a.toNat*s.k) (min s.pt (s.k:Int)).toNat else iv s.l (a.toNat*s.k) s.k).length=s.l.length:=by split<;>simp[ye]
   refine⟨h.len,h.kk,?_,h.pt,⟨?_,?_⟩,?_,h.k⟩
   ·simp only[aX] at*;split<;>omega
   ·simp only;split<;>omega
   ·simp only;split<;>omega
   ·simp only[hl];exact h.l
  ·exact h.mono (by omega)
structure aA(n k a c:Nat):Prop where
 c1:1≤c
 big:64≤c*k
 fit:a*k+c*k≤n
 ac:a≤4194304∧c≤4194304
theorem aw.lP{B:Int}{n k a c:Nat}{s:U}(h:aw B n k s)(p:aA n k a c):ph s a c:=by
 have:=h.len;have h1:=h.kk;have h2:=h.l;have h3:=h.k;have h4:=p.fit;have h5:=p.ac
 refine⟨by omega,by rw[h3];exact h1,by rw[h3,h2];exact h4,by omega⟩
theorem sN (s : U) (a c : Nat) (h : ph s a c) (at_ : Int) (ha : aX (a * s.k + at_)) (m : List UInt8) (n : Nat) (hn : n = m.length) (fu : m.length ≤ 140737488355328) (kb : aX s.ar) (kc : 0 ≤ s.wr ∧ s.wr + m.length < 9223372036854775807) (vb v0 v1 v2 : Nat) : Spec Tryz.prog 123 [.ref 0 vb 3 0 0, .val (.int .i64 at_), .own 3 v2 1 0 n] [⟨vb, .obj [.ref 1 v0 6 0 0, .val (.int .i64 (a : Int)), .val (.int .i64 (c : Int))]⟩, ⟨v0, .obj [.own 2 v1 1 0 s.l.length, .val (.int .i64 (s.k : Int)), .val (.int .i64 s.ar), .val (.int .i64 s.pt), .val (.bool s.dd), .val (.int .i64 s.wr)]⟩, ⟨v1, .bytes s.l⟩, ⟨v2, .bytes m⟩]
   (ak (.val (.int .i64 (s.prog ((a:Int)*s.k+at_) m).1)) [⟨vb,.obj [.ref 1 v0 6 0 0,.val (.int .i64 (a:Int)),.val (.int .i64 (c:Int))]⟩,⟨v0,.obj [.own 2 v1 1 0 (s.prog ((a:Int)*s.k+at_) m).2.l.length,.val (.int .i64 ((s.prog ((a:Int)*s.k+at_) m).2.k:Int)),.val (.int .i64 (s.prog ((a:Int)*s.k+at_) m).2.ar),.val (.int .i64 (s.prog ((a:Int)*s.k+at_) m).2.pt),.val (.bool (s.prog ((a:Int)*s.k+at_) m).2.dd),.val (.int .i64 (s.prog ((a:Int)*s.k+at_) m).2.wr)]⟩,⟨v1,.bytes (s.prog ((a:Int)*s.k+at_) m).2.l⟩,⟨v2,.bytes m⟩] []):=by
 subst hn
 have e:=whole m
 have h:=n9 (uX (Od s a c h at_ ha ((m.drop 0).take m.length) (by rw[e];exact fu) kb (by rw[e];exact kc) 0 vb v0 v1)) (R:=[⟨v2,.bytes m⟩]) (args:=[.ref 0 vb 3 0 0,.val (.int .i64 at_),.own 3 v2 1 0 m.length])
  trivial ⟨⟨trivial,trivial,trivial,trivial⟩,⟨trivial,trivial,trivial,trivial,trivial,trivial,trivial⟩,trivial,trivial⟩ ⟨⟨(by decide:1<3),trivial,trivial,trivial⟩,⟨(by decide:2<3),trivial,trivial,trivial,trivial,trivial,trivial⟩,trivial,trivial⟩ ⟨⟨trivial,trivial,trivial,trivial⟩,⟨trivial,trivial,trivial,trivial,trivial,trivial,trivial⟩,trivial,trivial⟩ rfl trivial trivial
  (fO (mq trivial (by decide:0<3)) (fO (mq trivial trivial) (fO (oc (q:=0) (l:=m) rfl (by omega)) mo)))
 rw[e] at h
 exact h
theorem Cn {W : Int} {n k : Nat} (s : U) (a c : Nat) (g : aw W n k s) (hW : W ≤ 9000000000000000000) (p : aA n k a c) (vb v0 v1 : Nat) : Spec Tryz.prog 114 [.ref 0 vb 3 0 0] [⟨vb, .obj [.ref 1 v0 6 0 0, .val (.int .i64 (a : Int)), .val (.int .i64 (c : Int))]⟩, ⟨v0, .obj [.own 2 v1 1 0 s.l.length, .val (.int .i64 (s.k : Int)), .val (.int .i64 s.ar), .val (.int .i64 s.pt), .val (.bool s.dd), .val (.int .i64 s.wr)]⟩, ⟨v1, .bytes s.l⟩]
   (ak (.val (.int .i64 (s.prog ((a:Int)*s.k+12) [254]).1)) [⟨vb,.obj [.ref 1 v0 6 0 0,.val (.int .i64 (a:Int)),.val (.int .i64 (c:Int))]⟩,⟨v0,.obj [.own 2 v1 1 0 (s.prog ((a:Int)*s.k+12) [254]).2.l.length,.val (.int .i64 ((s.prog ((a:Int)*s.k+12) [254]).2.k:Int)),.val (.int .i64 (s.prog ((a:Int)*s.k+12) [254]).2.ar),.val (.int .i64 (s.prog ((a:Int)*s.k+12) [254]).2.pt),.val (.bool (s.prog ((a:Int)*s.k+12) [254]).2.dd),.val (.int .i64 (s.prog ((a:Int)*s.k+12) [254]).2.wr)]⟩,⟨v1,.bytes (s.prog ((a:Int)*s.k+12) [254]).2.l⟩] []):=by
 have h:=g.lP p
 have hi:=h.int
 have hl:=h.len
 have hw:=g.wr
 refine ax ai Tryz.func114 rfl Tryz.ntmps114 Tryz.results114 ?_
 refine gg ?_
 refine af (sN s a c h 12 (by unfold aX;omega) [254] 1 rfl (by decide) g.ar ⟨by omega,by show s.wr+1<_;omega⟩ vb v0 v1 1) Tryz.call123 4 [0,1,2,9] [0,0,0,0] [] ?_
 refine gg ?_
 exact⟨_,rfl,rfl,trivial⟩
theorem Co{W:Int}{n k a c:Nat}{s:U}(g:aw W n k s)(p:aA n k a c)(m:Nat)(hm:m≤c*k):(s.dd=true∧s.read ((a:Int)*s.k) m=(6,[]))∨(s.dd=false∧s.read ((a:Int)*s.k) m=(0,(s.l.drop (a*k)).take m)∧((s.l.drop (a*k)).take m).length=m):=by
 have h1:=p.fit;have h2:=g.l;have h3:=g.k
 unfold U.read
 cases s.dd with
 | true=>exact .inl ⟨rfl,by simp⟩
 | false=>
  right
  have e1:((a:Int)*s.k)=((a*k:Nat):Int):=by rw[h3];push_cast;rfl
  rw[e1]
  have h4:0≤((a*k:Nat):Int)∧0≤(m:Int)∧((a*k:Nat):Int)+(m:Int)≤s.l.length:=by omega
  simp only[if_pos h4,Bool.false_eq_true,if_false,Int.toNat_natCast]
  refine⟨trivial,trivial,?_⟩
  rw[List.length_take,List.length_drop];omega
def U.head(s:U)(a:Nat):Int×Bool×Int:=if s.dd then(0,false,6) else if((s.l.drop (a*s.k)).take 16).take 12=cY (dG ((((s.l.drop (a*s.k)).take 16).drop 4).take 4)) then((dG ((((s.l.drop (a*s.k)).take 16).drop 4).take 4):Int),decide (((((s.l.drop (a*s.k)).take 16).getD 12 0).toNat:Int)=254),0) else(0,false,0)
theorem Oe (l : List UInt8) (L : Nat) (hL : L = l.length) (hb : l.length ≤ 140737488355328) (v : Nat) (at_ n : Int) (ha : aX at_) (hn : n = 2 ∨ n = 4) (hw : 0 ≤ at_ ∧ at_ + n ≤ l.length) : Spec Tryz.prog 157 [.own 0 v 1 0 L, .val (.int .i64 at_), .val (.int .i64 n)] [⟨v, .bytes l⟩]
   (ak (.val (.int .i64 (dG ((l.drop at_.toNat).take n.toNat)))) [⟨v,.bytes l⟩] []):=by
 subst hL
 have h:=vl (l:=l) 0 l.length (by omega) (uX (B8 ((l.drop 0).take l.length) (by rw[whole];exact hb) 0 at_ n ha hn (by rw[whole];exact hw))) trivial trivial (fun _=>eA o5 (eA o5 iq)) v
 rw[whole] at h
 exact h
theorem Og(a:List UInt8)(n m:Nat)(hn:n≤a.length)(b:List UInt8)(fu:m=b.length)(v0 v1:Nat):Spec Tryz.prog 125 [.own 0 v0 1 0 n,.own 1 v1 1 0 m] [⟨v0,.bytes a⟩,⟨v1,.bytes b⟩] (ak (.val (.bool (decide (a.take n=b)))) [⟨v0,.bytes a⟩,⟨v1,.bytes b⟩] []):=by
 subst fu
 have:=kC (uX (Cb ((a.drop 0).take n) ((b.drop 0).take b.length) 0 0)) trivial trivial (rows:=[⟨v0,.bytes a⟩,⟨v1,.bytes b⟩]) (args:=[.own 0 v0 1 0 n,.own 1 v1 1 0 b.length]) (eA (ml (l:=a) rfl (by omega)) (eA (ml (l:=b) rfl (by omega)) iq))
 rw[whole,List.drop_zero] at this
 exact this
theorem Hc {W : Int} {n k : Nat} (s : U) (a c : Nat) (g : aw W n k s) (p : aA n k a c) (vb v0 v1 : Nat) : Spec Tryz.prog 112 [.ref 0 vb 3 0 0] [⟨vb, .obj [.ref 1 v0 6 0 0, .val (.int .i64 (a : Int)), .val (.int .i64 (c : Int))]⟩, ⟨v0, .obj [.own 2 v1 1 0 s.l.length, .val (.int .i64 (s.k : Int)), .val (.int .i64 s.ar), .val (.int .i64 s.pt), .val (.bool s.dd), .val (.int .i64 s.wr)]⟩, ⟨v1, .bytes s.l⟩]
   (ak (.aD [.val (.int .u32 (s.head a).1),.val (.bool (s.head a).2.1),.val (.int .i64 (s.head a).2.2)]) [⟨vb,.obj [.ref 1 v0 6 0 0,.val (.int .i64 (a:Int)),.val (.int .i64 (c:Int))]⟩,⟨v0,.obj [.own 2 v1 1 0 s.l.length,.val (.int .i64 (s.k:Int)),.val (.int .i64 s.ar),.val (.int .i64 s.pt),.val (.bool s.dd),.val (.int .i64 s.wr)]⟩,⟨v1,.bytes s.l⟩] []):=by
 have h:=g.lP p
 have hl:=h.len
 have hb:=p.big
 refine ax ai Tryz.func112 rfl Tryz.ntmps112 Tryz.results112 ?_
 refine gg ?_
 refine af (Cm s a c h 16 (by unfold aX;omega) vb v0 v1) Tryz.call156 3 [0,1,2,0,0,0,0,0,0,0,0,0,0,0,0,0,0,0,0,0,0,0,0,0,13] [0,0,0,0,0,0,0,0,0,0,0,0,0,0,0,0,0,0,0,0,0,0,0,0,1] [24] ?_
 rcases Co g p 16 (by omega) with⟨hd,hr⟩ | ⟨hd,hr,hx⟩
 ·rw[show((16:Nat):Int)=16 from rfl] at hr
  rw[hr]
  refine gg ?_
  refine⟨_,?_,rfl,trivial⟩
  unfold U.head;rw[hd];rfl
 rw[show((16:Nat):Int)=16 from rfl] at hr
 rw[hr]
 have tS:((s.l.drop (a*s.k)).take 16)=((s.l.drop (a*k)).take 16):=by rw[g.k]
 unfold U.head
 rw[hd,tS]
 generalize ((s.l.drop (a*k)).take 16)=x at hx hr
 refine gg ?_
 refine af (Oe x x.length rfl (by omega) 5 4 4 (by unfold aX;omega) (.inr rfl) (by omega)) Tryz.call157 1 [13] [0] [] ?_
 have hn:=pd ((x.drop 4).take 4)
 have rO:((x.drop 4).take 4).length=4:=by rw[List.length_take,List.length_drop];omega
 rw[rO] at hn
 refine gg ?_
 (refine aH ?_)
 refine bL (p:=3) ai hm [0,1,0,4,15,31] [⟨0,false,false,[]⟩,⟨1,true,false,[21,22,23,24]⟩,⟨2,false,false,[]⟩,⟨3,true,false,[19,20,23,24]⟩,⟨4,true,false,[24]⟩,⟨5,false,false,[]⟩] (by kernel_rfl) ?_
 refine gg ?_
 have hG:((dG (List.take (Int.toNat 4) (List.drop (Int.toNat 4) x)):Nat):Int)%4294967296=(dG ((x.drop 4).take 4):Nat):=by
  show((dG (List.take 4 (List.drop 4 x)):Nat):Int)%4294967296=_
  omega
 rw[hG]
 generalize U0:dG ((x.drop 4).take 4)=G at hn
 refine af (G0 (G:Int) (by omega)) Tryz.call158 0 [0,0,0,0,0,0,0,0,0,0,0,0,0,25] [0,0,0,0,0,0,0,0,0,0,0,0,0,1] [13] ?_
 refine gg ?_
 refine af (Og x 12 12 (by omega) (cY G) (jD _).symm 5 7) Tryz.call125 2 [13,25] [0,0] [] ?_
 refine gg ?_
 refine⟨fun h=> ?_,fun h=> ?_⟩
 ·have aG:¬x.take 12=cY G:=by simpa using h
  refine gg ?_
  rw[if_neg aG]
  exact⟨_,rfl,rfl,trivial⟩
 ·have he:x.take 12=cY G:=by simpa using h
  refine gg ?_
  (refine aH ?_)
  refine bL (p:=3) ai hm [0,0,2,6,14,1,63,127] [⟨0,false,false,[]⟩,⟨1,false,false,[]⟩,⟨2,true,false,[25,28,29,2,3,4]⟩,⟨3,true,false,[25,29,2,3,4]⟩,⟨4,false,false,[]⟩,⟨5,false,false,[]⟩,⟨6,false,false,[]⟩,⟨7,false,false,[]⟩] (by kernel_rfl) ?_
  refine gg ?_
  rw[if_pos he]
  exact⟨_,rfl,rfl,trivial⟩
def U.cS(s:U)(a:Nat):Nat→Int×U
 | 0=>(0,s)
 | m+1=>if(s.cS a m).1=0 then(s.cS a m).2.erase ((a:Int)+m) else s.cS a m
def U.format(s:U)(a c:Nat)(g:Int):Int×U:=if(s.cS a c).1=0 then(s.cS a c).2.prog ((a:Int)*s.k) (cY g) else s.cS a c
theorem Cp(s:U)(a:Nat){m:Nat}(h:(s.cS a m).1≠0):∀d,s.cS a (m+d)=s.cS a m
 | 0=>rfl
 | d+1=>by
  have ih:=Cp s a h d
  rw[←Nat.add_assoc,U.cS,ih,if_neg h]
theorem aw.cS{B:Int}{n k:Nat}{s:U}(h:aw B n k s)(a:Nat):∀m:Nat,aw (B+m) n k (s.cS a m).2
 | 0=>h.mono (by omega)
 | m+1=>by
  have ih:=h.cS a m
  rw[U.cS]
  split
  ·exact(ih.erase _).mono (by omega)
  ·exact ih.mono (by omega)
theorem Cq {W : Int} {n k : Nat} (s : U) (a c : Nat) (g : aw W n k s) (hW : W ≤ 9000000000000000000) (p : aA n k a c) (gen : Int) (qP : 0 ≤ gen ∧ gen ≤ 4294967295) (vb v0 v1 : Nat) : Spec Tryz.prog 113 [.ref 0 vb 3 0 0, .val (.int .u32 gen)] [⟨vb, .obj [.ref 1 v0 6 0 0, .val (.int .i64 (a : Int)), .val (.int .i64 (c : Int))]⟩, ⟨v0, .obj [.own 2 v1 1 0 s.l.length, .val (.int .i64 (s.k : Int)), .val (.int .i64 s.ar), .val (.int .i64 s.pt), .val (.bool s.dd), .val (.int .i64 s.wr)]⟩, ⟨v1, .bytes s.l⟩]
   (ak (.val (.int .i64 (s.format a c gen).1)) [⟨vb,.obj [.ref 1 v0 6 0 0,.val (.int .i64 (a:Int)),.val (.int .i64 (c:Int))]⟩,⟨v0,.obj [.own 2 v1 1 0 (s.format a c gen).2.l.length,.val (.int .i64 ((s.format a c gen).2.k:Int)),.val (.int .i64 (s.format a c gen).2.ar),.val (.int .i64 (s.format a c gen).2.pt),.val (.bool (s.format a c gen).2.dd),.val (.int .i64 (s.format a c gen).2.wr)]⟩,⟨v1,.bytes (s.format a c gen).2.l⟩] []):=by
 have Oh:=p.ac
 refine ax ai Tryz.func113 rfl Tryz.ntmps113 Tryz.results113 ?_
 refine gg ?_
 (refine aH ?_)
 conv=>whnf
 refine cE (fun i:Nat=>i≤c∧(s.cS a i).1=0) (fun i=>c - i) 3 [4,5,6,13,14,15,16,17,18,19,20,21,22,23,24,25,26,27,28,29,30] (fun i=>[(13,.val (.int .i64 i))]) (fun i=>[(0,⟨vb,.obj [.ref 1 v0 6 0 0,.val (.int .i64 (a:Int)),.val (.int .i64 (c:Int))]⟩),(1,⟨v0,.obj [.own 2 v1 1 0 (s.cS a i).2.l.length,.val (.int .i64 ((s.cS a i).2.k:Int)),.val (.int .i64 (s.cS a i).2.ar),.val (.int .i64 (s.cS a i).2.pt),.val (.bool (s.cS a i).2.dd),.val (.int .i64 (s.cS a i).2.wr)]⟩),(2,⟨v1,.bytes (s.cS a i).2.l⟩)]) 0 ⟨Nat.zero_le _,rfl⟩ ?_ ?_ ?_
 ·exact no_implicit_lambda%ten
 ·exact no_implicit_lambda%b6
 ·rintro i v ⟨h1,h2⟩
  refine cF ?_
  refine gg ?_
  have hS:s.cS a (i+1)=(s.cS a i).2.erase ((a:Int)+i):=by rw[U.cS,if_pos h2]
  have gi:=g.cS a i
  have U1:=g.cS a (i+1)
  have Hd:=gi.wr
  refine⟨fun h=> ?_,fun h=> ?_⟩
  ·have hi:i<c:=by have:=of_decide_eq_true h;omega
   refine gg ?_
   (refine aH ?_)
   refine bL (p:=3) ai hm [0,1,3,7,0,16,48,112,0,496,1023,2047] [⟨0,false,false,[]⟩,⟨1,true,false,[18,19,20,21,22,23,24,25,26,6]⟩,⟨2,true,false,[19,20,21,22,23,24,25,26,6]⟩,⟨3,true,false,[20,21,22,23,24,25,26,6]⟩,⟨4,false,false,[]⟩,⟨5,true,false,[16,17,18,19,22,23,24,25,26,6]⟩,⟨6,true,false,[16,17,18,19,23,24,25,26,6]⟩,⟨7,true,false,[16,17,18,19,24,25,26,6]⟩,⟨8,false,false,[]⟩,⟨9,false,false,[]⟩,⟨10,true,true,[6]⟩,⟨11,false,false,[]⟩] (by kernel_rfl) ?_
   refine gg ?_
   refine aY (Oa (s.cS a i).2 (by have:=gi.l;have:=gi.len;omega) (by rw[gi.k];exact gi.kk) ((a:Int)+i) (by unfold aX;omega) gi.ar gi.pt ⟨Hd.1,by omega⟩ v0 v1) Tryz.call159 [1,2] ?_
   rw[←hS]
   refine gg ?_
   refine⟨fun h=> ?_,fun h=> ?_⟩
   ·have aG:(s.cS a (i+1)).1≠0:=by simpa using h
    refine gg ?_
    have cr:=Cp s a aG (c - (i+1))
    rw[show i+1+(c - (i+1))=c by omega] at cr
    have hf:s.format a c gen=s.cS a (i+1):=by unfold U.format;rw[cr,if_neg aG]
    rw[hf]
    exact⟨_,rfl,rfl,trivial⟩
   ·have he:(s.cS a (i+1)).1=0:=by simpa using h
    refine gg ?_
    exact bk (i+1) ⟨hi,he⟩ (by show c - (i+1)<c - i;omega)
  ·have hi:i=c:=by have:=of_decide_eq_false h;omega
   subst hi
   refine gg ?_
   refine af (G0 gen qP) Tryz.call158 0 [0,0,0,0,0,0,0,0,0,0,0,0,0,36] [0,0,0,0,0,0,0,0,0,0,0,0,0,1] [13] ?_
   refine gg ?_
   have jj:=gi.lP p
   have He:=jj.int
   have mu:=jj.len
   refine af (sN (s.cS a i).2 a i jj 0 (by unfold aX;omega) (cY gen) 12 (jD _).symm (by rw[jD];decide) gi.ar ⟨Hd.1,by rw[jD];omega⟩ vb v0 v1 7) Tryz.call123 4 [0,1,2,36] [0,0,0,0] [] ?_
   refine gg ?_
   have hf:s.format a i gen=(s.cS a i).2.prog ((a:Int)*(s.cS a i).2.k+0) (cY gen):=by
    unfold U.format;rw[if_pos h2,Int.add_zero,gi.k,g.k]
   rw[hf]
   exact⟨_,rfl,rfl,trivial⟩
theorem Oi(v n:Nat)(x:List UInt8):Spec Tryz.prog 164 [.own 0 v 1 0 n] [⟨v,.bytes x⟩] (ak (.clo 202 [.ref 2 1 1 0 0]) [⟨v,.bytes x⟩] [(2,⟨1,.obj [.own 0 v 1 0 n]⟩)]):=by
 refine ax ai Tryz.func164 rfl Tryz.ntmps164 Tryz.results164 ?_
 refine gg ?_
 exact⟨_,rfl,rfl,rfl,trivial⟩
structure Rc where
 key:List UInt8
 val:List UInt8
 lv:Bool
 at_:Nat
theorem vE(x:List UInt8):12≤dY x:=by unfold dY;omega
def cu(x:List UInt8)(a:Nat):List Rc×Nat×Bool:=
 if h:a<x.length∧x.getD a 0≠255 then
  if iu (x.drop a) then(⟨dQ (x.drop a),eB (x.drop a),nz (x.drop a),a⟩::(cu x (a+dY (x.drop a))).1,(cu x (a+dY (x.drop a))).2)
  else([],a,false)
 else([],a,true)
termination_by x.length - a
decreasing_by all_goals (have:=vE (x.drop a);omega)
theorem vF{x:List UInt8}{a:Nat}(h:a<x.length∧x.getD a 0≠255)(hr:iu (x.drop a)):cu x a=(⟨dQ (x.drop a),eB (x.drop a),nz (x.drop a),a⟩::(cu x (a+dY (x.drop a))).1,(cu x (a+dY (x.drop a))).2):=by
 rw[cu,dif_pos h,if_pos hr]
theorem vG{x:List UInt8}{a:Nat}(h:a<x.length∧x.getD a 0≠255)(hr:¬iu (x.drop a)):cu x a=([],a,false):=by
 rw[cu,dif_pos h,if_neg hr]
theorem sO{x:List UInt8}{a:Nat}(h:¬(a<x.length∧x.getD a 0≠255)):cu x a=([],a,true):=by
 rw[cu,dif_neg h]
structure Rr where
 i:Nat
 kn:Nat
 vn:Nat
 lv:Bool
def b7(r v:Nat)(y:Rr):List AV:=[.pl r v y.i 0 y.kn,.pl r v (y.i+1) 0 y.vn,.val (.bool y.lv)]
def bX:Nat→List Rc→List Rr
 | _,[]=>[]
 | i,c::l=>⟨i,c.key.length,c.val.length,c.lv⟩::bX (i+2) l
def dI(l:List Rc):List (List UInt8):=l.flatMap fun c=>[c.key,c.val]
theorem di:∀(l:List Rc)(i:Nat),(bX i l).length=l.length
 | [],_=>rfl
 | _::l,i=>by simp[bX,di l]
theorem Cr:∀(l:List Rc),(dI l).length=2*l.length
 | []=>rfl
 | c::l=>by
  have:=Cr l
  simp only[dI,List.flatMap_cons,List.length_append,List.length_cons,List.length_nil] at this⊢
  omega
theorem Hf(c:Rc):∀(l:List Rc)(i:Nat),bX i (l++[c])=bX i l++[⟨i+2*l.length,c.key.length,c.val.length,c.lv⟩]
 | [],i=>by simp[bX]
 | d::l,i=>by
  simp only[List.cons_append,bX,Hf c l,List.length_cons,List.cons.injEq,true_and]
  rw[show i+2+2*l.length=i+2*(l.length+1) by omega]
theorem Oj(c:Rc)(l:List Rc):dI (l++[c])=dI l++[c.key]++[c.val]:=by simp[dI]
theorem drop_take(x:List UInt8)(o:Nat):(x.drop o).take (x.length - o)=x.drop o:=by rw[List.take_of_length_le];rw[List.length_drop];exact Nat.le_refl _
theorem Ol (x : List UInt8) (hx : x.length ≤ 140737488355328) (o n v : Nat) (ho : o ≤ x.length) (hn : n = x.length - o) (y : List UInt8) (hy : y = x.drop o) (h : iu y) : Spec Tryz.prog 203 [.own 0 v 1 o n] [⟨v, .bytes x⟩]
    (ak (.aD [.agg [.own 55 3 1 0 (dQ y).length,.own 61 3 1 0 (eB y).length,.val (.bool (nz y))],.val (.int .i64 (dY y))]) [⟨v,.bytes x⟩] [(55,⟨3,.bytes (dQ y)⟩),(61,⟨3,.bytes (eB y)⟩)]):=by
 subst hn hy
 have:=vl (l:=x) o (x.length - o) (by omega) (NP 0 ((x.drop o).take (x.length - o)) (by rw[drop_take,List.length_drop];omega) (by rw[drop_take];exact h)) ⟨⟨trivial,trivial,trivial,trivial⟩,trivial,trivial⟩ ⟨trivial,trivial,trivial⟩ (fun _=>iq) v
 rw[drop_take] at this
 exact this
theorem Om (x : List UInt8) (hx : x.length ≤ 140737488355328) (o n v : Nat) (ho : o ≤ x.length) (hn : n = x.length - o) (h : ¬ iu (x.drop o)) : Spec Tryz.prog 203 [.own 0 v 1 o n] [⟨v, .bytes x⟩]
    (ak (.aD [vC,.val (.int .i64 0)]) [⟨v,.bytes x⟩] []):=by
 subst hn
 have:=vl (l:=x) o (x.length - o) (by omega) (NO 0 ((x.drop o).take (x.length - o)) (by rw[drop_take,List.length_drop];omega) (by rw[drop_take];exact h)) ⟨⟨trivial,trivial,trivial,trivial⟩,trivial,trivial⟩ trivial (fun _=>iq) v
 exact this
structure SY where
 at_:Nat
 rs:List Rc
theorem Ct {W : Int} {n k : Nat} (s : U) (a c : Nat) (g : aw W n k s) (p : aA n k a c) (hd : s.dd = false) (x : List UInt8) (hx : x = (s.l.drop (a * k)).take (c * k)) (vb v0 v1 : Nat) : Spec Tryz.prog 121 [.ref 0 vb 3 0 0] [⟨vb, .obj [.ref 1 v0 6 0 0, .val (.int .i64 (a : Int)), .val (.int .i64 (c : Int))]⟩, ⟨v0, .obj [.own 2 v1 1 0 s.l.length, .val (.int .i64 (s.k : Int)), .val (.int .i64 s.ar), .val (.int .i64 s.pt), .val (.bool s.dd), .val (.int .i64 s.wr)]⟩, ⟨v1, .bytes s.l⟩]
   (ak (.aD [.own 94 ((cu x 16).1.length+1) 3 0 (cu x 16).1.length,.own 98 ((cu x 16).1.length+1) 1 0 (cu x 16).1.length,.val (.int .i64 ((cu x 16).2.1:Int)),.val (.bool (cu x 16).2.2),.val (.int .i64 0)]) [⟨vb,.obj [.ref 1 v0 6 0 0,.val (.int .i64 (a:Int)),.val (.int .i64 (c:Int))]⟩,⟨v0,.obj [.own 2 v1 1 0 s.l.length,.val (.int .i64 (s.k:Int)),.val (.int .i64 s.ar),.val (.int .i64 s.pt),.val (.bool s.dd),.val (.int .i64 s.wr)]⟩,⟨v1,.bytes s.l⟩]
    [(94,⟨(cu x 16).1.length+1,.row 3 (b7 104 1) ⟨0,0,0,false⟩ (bX 0 (cu x 16).1)⟩),(98,⟨(cu x 16).1.length+1,.row 1 (dy .i64) 0 ((cu x 16).1.map fun c=>(c.at_:Int))⟩),(104,⟨1,.az (dI (cu x 16).1)⟩)]):=by
 have h:=g.lP p
 have hi:=h.int
 have hl:=h.len
 have hb:=p.big
 have jU:=p.fit
 have fY:=g.len
 refine vf ai Tryz.func121 rfl Tryz.ntmps121 Tryz.results121 60 104 ?_
 refine gg ?_
 refine aY (yf s a c h vb v0 v1) Tryz.call122 [0,1,2] ?_
 refine gg ?_
 refine Ng 104 ?_
 refine af (Cm s a c h ((c:Int)*s.k) (by unfold aX;omega) vb v0 v1) Tryz.call156 3 [0,1,2,0,0,0,0,0,0,0,0,0,0,0,0,0,0,0,0,0,0,0,0,0,74] [0,0,0,0,0,0,0,0,0,0,0,0,0,0,0,0,0,0,0,0,0,0,0,0,1] [24] ?_
 refine⟨0,rfl,?_⟩
 have hr:s.read ((a:Int)*s.k) ((c:Int)*s.k)=(0,x):=by
  rcases Co g p (c*k) (Nat.le_refl _) with⟨q,_⟩ | ⟨_,q,_⟩
  ·rw[hd] at q;cases q
  ·rw[hx,←q,g.k];push_cast;rfl
 have kt:x.length=c*k:=by
  rcases Co g p (c*k) (Nat.le_refl _) with⟨q,_⟩ | ⟨_,_,q⟩
  ·rw[hd] at q;cases q
  ·rw[hx];exact q
 rw[hr]
 refine gg ?_
 refine af (Oi 5 x.length x) Tryz.call164 1 [74,0,81] [0,0,1] [2] ?_
 refine gg ?_
 (refine aH ?_)
 conv=>whnf
 refine BG ai (p':=3) (m:=0) 103 0 rfl trivial Tryz.func202 rfl Tryz.ntmps202 Tryz.results202 Tryz.call202 (by kernel_rfl) rfl ?_
 intro i pj pn po
 have hI:Go.RowKit.Hid _:=And.intro pj (And.intro pn po)
 clear pj pn po
 (refine aH ?_)
 refine gg ?_
 (refine aH ?_)
 conv=>whnf
 refine qK (xN (GH (b:=62) (r:=94) (v':=1) (sz:=3) (bd':= .row 3 (b7 104 1) ⟨0,0,0,false⟩ []) rfl rfl rfl (by decide) rfl) (GH (b:=63) (r:=98) (v':=1) (sz:=1) (bd':= .row 1 (dy .i64) 0 []) rfl rfl rfl (by decide) rfl)) ?_
 dsimp only[aJ]
 refine cE (fun y:SY=>16≤y.at_∧y.at_≤x.length∧12*y.rs.length≤y.at_∧cu x 16=(y.rs++(cu x y.at_).1,(cu x y.at_).2)) (fun y=>x.length - y.at_) 3 [3,4,5,6,7,8,9,10,11,12,13,14,15,16,17,18,19,20,21,22,23,24,25,26,27,28,29,30,31,32,33,34,35,36,37,66,90,94,102,103]
  (fun y=>[(3,.val (.int .i64 (y.at_:Int)))])
  (fun y=>[(62,⟨1,.obj [.own 94 (y.rs.length+1) 3 0 y.rs.length]⟩),(63,⟨1,.obj [.own 98 (y.rs.length+1) 1 0 y.rs.length]⟩),(94,⟨y.rs.length+1,.row 3 (b7 104 1) ⟨0,0,0,false⟩ (bX 0 y.rs)⟩),(98,⟨y.rs.length+1,.row 1 (dy .i64) 0 (y.rs.map fun c=>(c.at_:Int))⟩),(104,⟨1,.az (dI y.rs)⟩)])
  ⟨16,[]⟩ ⟨Nat.le_refl _,by show 16≤x.length;omega,by show 12*0≤16;omega,by simp⟩ ?_ ?_ ?_
 ·exact no_implicit_lambda%ten
 ·exact no_implicit_lambda%b6
 ·rintro⟨at_,rs⟩ v ⟨h1,h2,h3,h4⟩
  simp only at h1 h2 h3 h4
  refine cF ?_
  refine gg ?_
  have cK:0+((at_:Int)).toNat=at_:=by omega
  refine⟨fun h=> ?_,fun h=> ?_⟩
  ·have ah:at_<x.length∧x.getD at_ 0≠255:=by
     rw[Bool.and_eq_true,Bool.not_eq_true',decide_eq_false_iff_not,cK] at h
     refine⟨by have:=of_decide_eq_true h.1;omega,fun q=>h.2 ?_⟩
     rw[q];rfl
   have hN:=vE (x.drop at_)
   refine gg ?_
   by_cases qQ:iu (x.drop at_)
   ·have U2:dY (x.drop at_)≤x.length - at_:=by have:=qQ.2.2.2.2.2.1;rw[List.length_drop] at this;exact this
    refine GC 106 104 ?_
    refine GC 105 104 ?_
    refine af (Ol x (by omega) (0+((at_:Int)).toNat) (((x.length - ((at_:Int)).toNat))) 5 (by omega) (by omega) (x.drop at_) (by rw[cK]) qQ) Tryz.call203 (hz:=fun r hr=>by(obtain rfl:r=0:=by omega);rfl) (had:=⟨⟨_,rfl,Nat.lt_succ_self _⟩,⟨_,rfl,Nat.lt_succ_self _⟩,trivial⟩) 1 [74,0,0,0,0,0,0,0,0,0,0,0,0,0,0,0,0,0,0,0,0,0,0,0,0,0,0,0,0,0,0,0,0,0,0,0,0,0,0,0,0,0,0,0,0,0,0,0,0,0,0,0,0,0,0,105,0,0,0,0,0,106] [0,0,0,0,0,0,0,0,0,0,0,0,0,0,0,0,0,0,0,0,0,0,0,0,0,0,0,0,0,0,0,0,0,0,0,0,0,0,0,0,0,0,0,0,0,0,0,0,0,0,0,0,0,0,0,(v 105+1),0,0,0,0,0,(v 106+1)] [55,61] ?_
    refine⟨_,_,_,_,rfl,rfl,_,_,_,_,rfl,rfl,?_⟩
    have b1:Nat.beq 106 105=false:=rfl
    have b2:Nat.beq 105 105=true:=rfl
    have b3:Nat.beq 106 106=true:=rfl
    have b4:Nat.beq 1 1=true:=rfl
    dsimp only[bJ,cm,db,rl.cw]
    simp only[my,pc,Nat.beq_refl,b1,b2,b3,b4,Bool.and_true,Bool.and_self,Bool.false_and,cond_true,cond_false]
    have On:(dI rs++[dQ (x.drop at_)]).length=2*rs.length+1:=by rw[List.length_append,Cr];rfl
    rw[On,Cr rs]
    refine gg ?_
    conv=>whnf
    obtain⟨fQ,iw,gy⟩:_∧_∧_:=hI
    refine u6 (args:=[.val (.int .i64 (at_:Int)),.agg [.pl 104 1 (2*rs.length) 0 (dQ (x.drop at_)).length,.pl 104 1 (2*rs.length+1) 0 (eB (x.drop at_)).length,.val (.bool (nz (x.drop at_)))]]) ai (p:=60) (i:=i) rfl (by rw[iw];rfl) (by rw[gy];rfl) (by rw[fQ];rfl) ?_
    have c8:i.ps.toList=[22,23]:=by rw[fQ]
    rw[iw,gy,c8]
    clear c8;clear fQ iw gy
    dsimp only[lK,aJ]
    have bH:(dQ (x.drop at_)).length=bw (x.drop at_):=by
     have:=qQ.2.2.2.2.2.1
     unfold dY at this
     unfold dQ;rw[List.length_drop,List.length_take];omega
    have nc:=qQ.2.2.1
    refine gg ?_
    (refine aH ?_)
    refine bL (p:=60) ai hm [0,0,2,7,0,0,32,127,255,511] [⟨0,true,false,[32,33,34,35,36,37,38]⟩,⟨1,true,false,[31,33,34,35,36,37,38]⟩,⟨2,true,false,[31,34,35,36,37,38]⟩,⟨3,true,false,[35,36,37,38]⟩,⟨4,true,false,[31,32,33,34,36,37,38]⟩,⟨5,false,false,[]⟩,⟨6,true,false,[31,32,33,34,35,38]⟩,⟨7,true,false,[]⟩,⟨8,true,true,[]⟩,⟨9,true,true,[]⟩] (by kernel_rfl) ?_
    refine gg ?_
    conv=>whnf
    obtain⟨R,hR⟩:∃R:List Rc,R=rs++[⟨dQ (x.drop at_),eB (x.drop at_),nz (x.drop at_),at_⟩]:=⟨_,rfl⟩
    have qR:R.length=rs.length+1:=by rw[hR];simp
    have Oo:dI R=dI rs++[dQ (x.drop at_)]++[eB (x.drop at_)]:=by rw[hR,Oj]
    have oh:bX 0 R=bX 0 rs++[⟨2*rs.length,(dQ (x.drop at_)).length,(eB (x.drop at_)).length,nz (x.drop at_)⟩]:=by rw[hR,Hf,Nat.zero_add]
    have Oq:(R.map fun c=>(c.at_:Int))=(rs.map fun c=>(c.at_:Int))++[(at_:Int)]:=by rw[hR];simp
    refine⟨Rr,b7 104 1,⟨0,0,0,false⟩,bX 0 R,?_⟩
    conv=>whnf
    refine And.intro ?_ ?_
    ·refine⟨rfl,⟨rfl,rfl,Nat.le_refl _,fun q hq=>(by(have jf:q=0:=by simpa using hq);subst jf;exact⟨rfl,rfl,rfl,trivial⟩)⟩,rfl,rfl,rfl,(di rs 0).symm,.inr rfl,?_,?_,by decide⟩
     ·rw[oh,List.map_append];rfl
     ·rw[di,qR]
      show(rs.length+1)*56≤_
      omega
    refine gg ?_
    conv=>whnf
    refine⟨Int,dy .i64,0,R.map fun c=>(c.at_:Int),?_⟩
    conv=>whnf
    refine And.intro ?_ ?_
    ·refine⟨rfl,⟨rfl,rfl,Nat.le_refl _,fun q _=>⟨rfl,trivial⟩⟩,rfl,rfl,rfl,by simp,.inr rfl,?_,?_,by decide⟩
     ·rw[Oq,List.map_append];rfl
     ·rw[List.length_map,qR]
      show(rs.length+1)*8≤_
      omega
    refine gg ?_
    have Ot:x.length - (at_+dY (x.drop at_))<x.length - at_:=by omega
    dsimp only[l8,oT,kR]
    refine nZ (σ:=SY) ⟨at_+dY (x.drop at_),R⟩ ⟨by show 16≤at_+_;omega,by show at_+_≤_;omega,by show 12*R.length≤at_+_;rw[qR];omega,?_⟩ Ot ?_ ?_
    ·show cu x 16=(R++(cu x (at_+dY (x.drop at_))).1,(cu x (at_+dY (x.drop at_))).2)
     rw[h4,vF ah qQ,hR]
     simp
    ·exact no_implicit_lambda%ten
    ·dsimp only[iE,qx,qy,aJ,Nat.reduceAdd,Nat.zero_add]
     rw[di,List.length_map,qR,Oo]
     exact no_implicit_lambda%b6
   ·refine af (Om x (by omega) (0+((at_:Int)).toNat) (((x.length - ((at_:Int)).toNat))) 5 (by omega) (by omega) (by rw[cK];exact qQ)) Tryz.call203 1 [74] [0] [] ?_
    refine gg ?_
    conv=>whnf
    obtain⟨fQ,iw,gy⟩:_∧_∧_:=hI
    refine u6 (args:=[.val (.int .i64 (at_:Int)),vC]) ai (p:=60) (i:=i) rfl (by rw[iw];rfl) (by rw[gy];rfl) (by rw[fQ];rfl) ?_
    have c8:i.ps.toList=[22,23]:=by rw[fQ]
    rw[iw,gy,c8]
    clear c8;clear fQ iw gy
    unfold vC
    dsimp only[lK,aJ]
    refine gg ?_
    (refine aH ?_)
    refine bL (p:=60) ai hm [0,0,2,1,15] [⟨0,false,false,[]⟩,⟨1,false,false,[9]⟩,⟨2,false,false,[9]⟩,⟨3,true,true,[9,29,30]⟩,⟨4,true,true,[]⟩] (by kernel_rfl) ?_
    refine gg ?_
    refine⟨_,rfl,?_⟩
    refine gg ?_
    (refine aH ?_)
    refine bL (p:=60) ai hm [0,0,0,0,1,19,55,127,255] [⟨0,true,false,[40,41,42,6]⟩,⟨1,false,false,[3]⟩,⟨2,false,false,[4]⟩,⟨3,false,false,[5]⟩,⟨4,true,true,[5,4,3,40,41,42,6]⟩,⟨5,true,true,[5,4,41,42,6]⟩,⟨6,true,true,[5,42,6]⟩,⟨7,true,true,[6]⟩,⟨8,false,false,[]⟩] (by kernel_rfl) ?_
    refine gg ?_
    (refine aH ?_)
    have hG:cu x 16=(rs,at_,false):=by rw[h4,vG ah qQ];simp
    refine⟨_,jb _,by simp[fH,jh],by simp[o9,sE,fH,jh,b7,dy,dw,dc],?_⟩
    refine gg ?_
    rw[hG]
    exact⟨_,rfl,rfl,rfl,rfl,rfl,trivial⟩
  ·have nu:¬(at_<x.length∧x.getD at_ 0≠255):=by
     rw[cK] at h
     rintro⟨q1,q2⟩
     rw[decide_eq_true (by omega:(at_:Int)< (x.length:Int)),Bool.true_and,Bool.not_eq_false',decide_eq_true_eq] at h
     exact q2 (UInt8.toNat_inj.1 (by exact_mod_cast h))
   refine gg ?_
   conv=>whnf
   obtain⟨fQ,iw,gy⟩:_∧_∧_:=hI
   refine u6 (args:=[.val (.int .i64 (at_:Int)),.agg [.val (.slice none 0 0),.val (.slice none 0 0),.val (.bool true)]]) ai (p:=60) (i:=i) rfl (by rw[iw];rfl) (by rw[gy];rfl) (by rw[fQ];rfl) ?_
   have c8:i.ps.toList=[22,23]:=by rw[fQ]
   rw[iw,gy,c8]
   clear c8;clear fQ iw gy
   dsimp only[lK,aJ]
   refine gg ?_
   (refine aH ?_)
   refine bL (p:=60) ai hm [0,0,2,1,15] [⟨0,false,false,[]⟩,⟨1,false,false,[9]⟩,⟨2,false,false,[9]⟩,⟨3,true,true,[9,29,30]⟩,⟨4,true,true,[]⟩] (by kernel_rfl) ?_
   refine gg ?_
   refine⟨_,rfl,?_⟩
   refine gg ?_
   (refine aH ?_)
   refine bL (p:=60) ai hm [0,0,0,0,1,19,55,127,255] [⟨0,true,false,[40,41,42,6]⟩,⟨1,false,false,[3]⟩,⟨2,false,false,[4]⟩,⟨3,false,false,[5]⟩,⟨4,true,true,[5,4,3,40,41,42,6]⟩,⟨5,true,true,[5,4,41,42,6]⟩,⟨6,true,true,[5,42,6]⟩,⟨7,true,true,[6]⟩,⟨8,false,false,[]⟩] (by kernel_rfl) ?_
   refine gg ?_
   (refine aH ?_)
   have hG:cu x 16=(rs,at_,true):=by rw[h4,sO nu];simp
   refine⟨_,jb _,by simp[fH,jh],by simp[o9,sE,fH,jh,b7,dy,dw,dc],?_⟩
   refine gg ?_
   rw[hG]
   exact⟨_,rfl,rfl,rfl,rfl,rfl,trivial⟩
theorem Cu {W : Int} {n k : Nat} (s : U) (a c : Nat) (g : aw W n k s) (p : aA n k a c) (hd : s.dd = true) (vb v0 v1 : Nat) : Spec Tryz.prog 121 [.ref 0 vb 3 0 0] [⟨vb, .obj [.ref 1 v0 6 0 0, .val (.int .i64 (a : Int)), .val (.int .i64 (c : Int))]⟩, ⟨v0, .obj [.own 2 v1 1 0 s.l.length, .val (.int .i64 (s.k : Int)), .val (.int .i64 s.ar), .val (.int .i64 s.pt), .val (.bool s.dd), .val (.int .i64 s.wr)]⟩, ⟨v1, .bytes s.l⟩]
   (ak (.aD [.val (.slice none 0 0),.val (.slice none 0 0),.val (.int .i64 0),.val (.bool false),.val (.int .i64 6)]) [⟨vb,.obj [.ref 1 v0 6 0 0,.val (.int .i64 (a:Int)),.val (.int .i64 (c:Int))]⟩,⟨v0,.obj [.own 2 v1 1 0 s.l.length,.val (.int .i64 (s.k:Int)),.val (.int .i64 s.ar),.val (.int .i64 s.pt),.val (.bool s.dd),.val (.int .i64 s.wr)]⟩,⟨v1,.bytes s.l⟩] []):=by
 have h:=g.lP p
 have hi:=h.int
 have hl:=h.len
 refine vf ai Tryz.func121 rfl Tryz.ntmps121 Tryz.results121 60 104 ?_
 refine gg ?_
 refine aY (yf s a c h vb v0 v1) Tryz.call122 [0,1,2] ?_
 refine gg ?_
 refine af (Cm s a c h ((c:Int)*s.k) (by unfold aX;omega) vb v0 v1) Tryz.call156 3 [0,1,2,0,0,0,0,0,0,0,0,0,0,0,0,0,0,0,0,0,0,0,0,0,74] [0,0,0,0,0,0,0,0,0,0,0,0,0,0,0,0,0,0,0,0,0,0,0,0,1] [24] ?_
 have hr:s.read ((a:Int)*s.k) ((c:Int)*s.k)=(6,[]):=by unfold U.read;rw[hd];rfl
 rw[hr]
 refine gg ?_
 (refine aH ?_)
 refine⟨_,jb _,by simp[fH,jh],by simp[o9,sE,fH,jh,dw,dc],?_⟩
 refine gg ?_
 exact⟨_,rfl,rfl,trivial⟩
def U.cZ(s:U)(a c:Nat):List UInt8:=(s.l.drop (a*s.k)).take (c*s.k)
def U.scan(s:U)(a c:Nat):List Rc×Nat×Bool:=cu (s.cZ a c) 16
theorem Ou {W : Int} {n k : Nat} (s : U) (a c : Nat) (g : aw W n k s) (p : aA n k a c) (hd : s.dd = true) (vb v0 v1 : Nat) : Spec Tryz.prog 115 [.ref 0 vb 3 0 0] [⟨vb, .obj [.ref 1 v0 6 0 0, .val (.int .i64 (a : Int)), .val (.int .i64 (c : Int))]⟩, ⟨v0, .obj [.own 2 v1 1 0 s.l.length, .val (.int .i64 (s.k : Int)), .val (.int .i64 s.ar), .val (.int .i64 s.pt), .val (.bool s.dd), .val (.int .i64 s.wr)]⟩, ⟨v1, .bytes s.l⟩]
   (ak (.aD [.val (.slice none 0 0),.val (.int .i64 0),.val (.bool false),.val (.int .i64 6)]) [⟨vb,.obj [.ref 1 v0 6 0 0,.val (.int .i64 (a:Int)),.val (.int .i64 (c:Int))]⟩,⟨v0,.obj [.own 2 v1 1 0 s.l.length,.val (.int .i64 (s.k:Int)),.val (.int .i64 s.ar),.val (.int .i64 s.pt),.val (.bool s.dd),.val (.int .i64 s.wr)]⟩,⟨v1,.bytes s.l⟩] []):=by
 refine ax ai Tryz.func115 rfl Tryz.ntmps115 Tryz.results115 ?_
 refine gg ?_
 refine af (Cu s a c g p hd vb v0 v1) Tryz.call121 3 [0,1,2] [0,0,0] [] ?_
 refine gg ?_
 exact⟨_,rfl,rfl,trivial⟩
theorem yg {W : Int} {n k : Nat} (s : U) (a c : Nat) (g : aw W n k s) (p : aA n k a c) (hd : s.dd = false) (L : Nat) (hL : L = (s.scan a c).1.length) (vb v0 v1 : Nat) : Spec Tryz.prog 115 [.ref 0 vb 3 0 0] [⟨vb, .obj [.ref 1 v0 6 0 0, .val (.int .i64 (a : Int)), .val (.int .i64 (c : Int))]⟩, ⟨v0, .obj [.own 2 v1 1 0 s.l.length, .val (.int .i64 (s.k : Int)), .val (.int .i64 s.ar), .val (.int .i64 s.pt), .val (.bool s.dd), .val (.int .i64 s.wr)]⟩, ⟨v1, .bytes s.l⟩]
   (ak (.aD [.own 13 (L+2) 3 0 L,.val (.int .i64 ((s.scan a c).2.1:Int)),.val (.bool (s.scan a c).2.2),.val (.int .i64 0)]) [⟨vb,.obj [.ref 1 v0 6 0 0,.val (.int .i64 (a:Int)),.val (.int .i64 (c:Int))]⟩,⟨v0,.obj [.own 2 v1 1 0 s.l.length,.val (.int .i64 (s.k:Int)),.val (.int .i64 s.ar),.val (.int .i64 s.pt),.val (.bool s.dd),.val (.int .i64 s.wr)]⟩,⟨v1,.bytes s.l⟩]
    [(13,⟨L+2,.row 3 (b7 14 2) ⟨0,0,0,false⟩ (bX 0 (s.scan a c).1)⟩),(14,⟨2,.az (dI (s.scan a c).1)⟩)]):=by
 subst hL
 have hx:s.cZ a c=(s.l.drop (a*k)).take (c*k):=by unfold U.cZ;rw[g.k]
 refine ax ai Tryz.func115 rfl Tryz.ntmps115 Tryz.results115 ?_
 refine gg ?_
 refine af (Ct s a c g p hd _ hx vb v0 v1) Tryz.call121 (he:=⟨fun _=>⟨rfl,rfl,trivial,trivial⟩,fun _=>⟨trivial,trivial⟩,trivial,trivial⟩) 3 [0,1,2,0,0,0,0,0,0,0,0,0,0,0,0,0,0,0,0,0,0,0,0,0,0,0,0,0,0,0,0,0,0,0,0,0,0,0,0,0,0,0,0,0,0,0,0,0,0,0,0,0,0,0,0,0,0,0,0,0,0,0,0,0,0,0,0,0,0,0,0,0,0,0,0,0,0,0,0,0,0,0,0,0,0,0,0,0,0,0,0,0,0,0,13,0,0,0,15,0,0,0,0,0,14] [0,0,0,0,0,0,0,0,0,0,0,0,0,0,0,0,0,0,0,0,0,0,0,0,0,0,0,0,0,0,0,0,0,0,0,0,0,0,0,0,0,0,0,0,0,0,0,0,0,0,0,0,0,0,0,0,0,0,0,0,0,0,0,0,0,0,0,0,0,0,0,0,0,0,0,0,0,0,0,0,0,0,0,0,0,0,0,0,0,0,0,0,0,0,1,0,0,0,1,0,0,0,0,0,1] [94,98,104] ?_
 refine gg ?_
 exact⟨_,rfl,rfl,rfl,rfl,trivial⟩
theorem yh(x:List UInt8):∀(n a:Nat),x.length - a=n→(∀r∈(cu x a).1,r.at_<x.length)∧(a≤x.length→(cu x a).2.1≤x.length):=by
 intro n
 induction n using Nat.strongRecOn with
 | _ n ih=>
  intro a ha
  by_cases h:a<x.length∧x.getD a 0≠255
  ·by_cases hr:iu (x.drop a)
   ·rw[vF h hr]
    have hN:=vE (x.drop a)
    obtain⟨h1,h2⟩:=ih (x.length - (a+dY (x.drop a))) (by omega) (a+dY (x.drop a)) rfl
    refine⟨fun r hm=> ?_,fun _=>h2 ?_⟩
    ·rcases List.mem_cons.1 hm with rfl | hm
     ·exact h.1
     ·exact h1 r hm
    ·have:=hr.2.2.2.2.2.1
     rw[List.length_drop] at this;omega
   ·rw[vG h hr]
    exact⟨by simp,fun h=>h⟩
  ·rw[sO h]
   exact⟨by simp,fun h=>h⟩
def U.kill(s:U)(a c:Nat)(i:Int):Int×U:=if s.dd then(6,s) else if i<0∨((s.scan a c).1.length:Int)≤i then(1,s) else s.prog ((a:Int)*s.k+(((s.scan a c).1.map fun r=>(r.at_:Int)).getD i.toNat 0)) [248]
theorem kD {W : Int} {n k : Nat} (s : U) (a c : Nat) (g : aw W n k s) (hW : W ≤ 9000000000000000000) (p : aA n k a c) (i : Int) (hi : aX i) (vb v0 v1 : Nat) : Spec Tryz.prog 83 [.ref 0 vb 3 0 0, .val (.int .i64 i)] [⟨vb, .obj [.ref 1 v0 6 0 0, .val (.int .i64 (a : Int)), .val (.int .i64 (c : Int))]⟩, ⟨v0, .obj [.own 2 v1 1 0 s.l.length, .val (.int .i64 (s.k : Int)), .val (.int .i64 s.ar), .val (.int .i64 s.pt), .val (.bool s.dd), .val (.int .i64 s.wr)]⟩, ⟨v1, .bytes s.l⟩]
   (ak (.val (.int .i64 (s.kill a c i).1)) [⟨vb,.obj [.ref 1 v0 6 0 0,.val (.int .i64 (a:Int)),.val (.int .i64 (c:Int))]⟩,⟨v0,.obj [.own 2 v1 1 0 (s.kill a c i).2.l.length,.val (.int .i64 ((s.kill a c i).2.k:Int)),.val (.int .i64 (s.kill a c i).2.ar),.val (.int .i64 (s.kill a c i).2.pt),.val (.bool (s.kill a c i).2.dd),.val (.int .i64 (s.kill a c i).2.wr)]⟩,⟨v1,.bytes (s.kill a c i).2.l⟩] []):=by
 have hx:s.cZ a c=(s.l.drop (a*k)).take (c*k):=by unfold U.cZ;rw[g.k]
 have hb:=g.lP p
 have He:=hb.int
 have mu:=hb.len
 have hw:=g.wr
 refine ax ai Tryz.func83 rfl Tryz.ntmps83 Tryz.results83 ?_
 refine gg ?_
 by_cases hd:s.dd=true
 ·refine af (Cu s a c g p hd vb v0 v1) Tryz.call121 3 [0,1,2] [0,0,0] [] ?_
  refine gg ?_
  have hf:s.kill a c i=(6,s):=by unfold U.kill;rw[hd];rfl
  rw[hf]
  exact⟨_,rfl,rfl,trivial⟩
 ·have hd:s.dd=false:=by simpa using hd
  refine af (Ct s a c g p hd _ hx vb v0 v1) Tryz.call121 (he:=⟨fun _=>⟨rfl,rfl,trivial,trivial⟩,fun _=>⟨trivial,trivial⟩,trivial,trivial⟩) 3 [0,1,2,0,0,0,0,0,0,0,0,0,0,0,0,0,0,0,0,0,0,0,0,0,0,0,0,0,0,0,0,0,0,0,0,0,0,0,0,0,0,0,0,0,0,0,0,0,0,0,0,0,0,0,0,0,0,0,0,0,0,0,0,0,0,0,0,0,0,0,0,0,0,0,0,0,0,0,0,0,0,0,0,0,0,0,0,0,0,0,0,0,0,0,17,0,0,0,18,0,0,0,0,0,19] [0,0,0,0,0,0,0,0,0,0,0,0,0,0,0,0,0,0,0,0,0,0,0,0,0,0,0,0,0,0,0,0,0,0,0,0,0,0,0,0,0,0,0,0,0,0,0,0,0,0,0,0,0,0,0,0,0,0,0,0,0,0,0,0,0,0,0,0,0,0,0,0,0,0,0,0,0,0,0,0,0,0,0,0,0,0,0,0,0,0,0,0,0,0,1,0,0,0,1,0,0,0,0,0,1] [94,98,104] ?_
  refine gg ?_
  refine⟨fun h=> ?_,fun h=> ?_⟩
  ·have hc:i<0∨((s.scan a c).1.length:Int)≤i:=by
     rw[Bool.or_eq_true,decide_eq_true_eq,decide_eq_true_eq] at h;exact h
   refine gg ?_
   have hf:s.kill a c i=(1,s):=by unfold U.kill;rw[hd,if_pos hc];rfl
   rw[hf]
   exact⟨_,rfl,rfl,trivial⟩
  ·have hc:¬(i<0∨((s.scan a c).1.length:Int)≤i):=by
     rw[Bool.or_eq_false_iff,decide_eq_false_iff_not,decide_eq_false_iff_not] at h;exact fun q=>q.elim h.1 h.2
   have iR:0≤i∧i< ((cu (s.cZ a c) 16).1.length:Int):=by unfold U.scan at hc;omega
   have U3:(s.cZ a c).length≤s.l.length:=by unfold U.cZ;rw[List.length_take,List.length_drop];omega
   have cK:0≤((cu (s.cZ a c) 16).1.map fun r=>(r.at_:Int)).getD (0+i.toNat) 0∧((cu (s.cZ a c) 16).1.map fun r=>(r.at_:Int)).getD (0+i.toNat) 0≤s.l.length:=by
    have ah:0+i.toNat< (cu (s.cZ a c) 16).1.length:=by omega
    rw[List.getD_eq_getElem?_getD,List.getElem?_map,List.getElem?_eq_getElem ah]
    have:=(yh (s.cZ a c) _ 16 rfl).1 _ (List.getElem_mem ah)
    simp only[Option.map_some,Option.getD_some]
    omega
   have fY:=g.len
   have jg:=g.l
   refine gg ?_
   (refine aH ?_)
   refine And.intro ⟨rfl,⟨rfl,by rw[List.length_map];omega⟩,trivial⟩ ?_
   refine gg ?_
   refine af (sN s a c hb (((cu (s.cZ a c) 16).1.map fun r=>(r.at_:Int)).getD (0+i.toNat) 0) (by unfold aX;omega) [248] 1 rfl (by decide) g.ar ⟨by omega,by show s.wr+1<_;omega⟩ vb v0 v1 1) Tryz.call123 4 [0,1,2,41] [0,0,0,0] [] ?_
   refine gg ?_
   have hf:s.kill a c i=s.prog ((a:Int)*s.k+(((cu (s.cZ a c) 16).1.map fun r=>(r.at_:Int)).getD (0+i.toNat) 0)) [248]:=by
    unfold U.kill;rw[hd,if_neg hc,Nat.zero_add];rfl
   rw[hf]
   exact⟨_,rfl,rfl,trivial⟩
def U.jE(s:U)(q:Int)(k v:List UInt8):Int×U:=
 if(s.prog q [254]).1≠0 then s.prog q [254]
 else if((s.prog q [254]).2.prog (q+1) (bI k v)).1≠0 then(s.prog q [254]).2.prog (q+1) (bI k v)
 else((s.prog q [254]).2.prog (q+1) (bI k v)).2.prog q [252]
def U.add(s:U)(a c:Nat)(k v:List UInt8):Int×U:=
 if k.length<1∨255<k.length∨65536<v.length then(1,s)
 else if s.dd then(6,s)
 else if(s.scan a c).2.2=false then(12,s)
 else if(c:Int)*s.k - ((s.scan a c).2.1:Int)<12+k.length+v.length then(5,s)
 else s.jE ((a:Int)*s.k+((s.scan a c).2.1:Int)) k v
theorem mC {W : Int} {n k : Nat} (s : U) (a c : Nat) (g : aw W n k s) (hW : W ≤ 9000000000000000000) (p : aA n k a c) (key val : List UInt8) (bH : key.length ≤ 140737488355328) (dS : val.length ≤ 140737488355328) (z z' : Nat) (vb v0 v1 : Nat) : Spec Tryz.prog 81 [.ref 0 vb 3 0 0, .bs z key, .bs z' val] [⟨vb, .obj [.ref 1 v0 6 0 0, .val (.int .i64 (a : Int)), .val (.int .i64 (c : Int))]⟩, ⟨v0, .obj [.own 2 v1 1 0 s.l.length, .val (.int .i64 (s.k : Int)), .val (.int .i64 s.ar), .val (.int .i64 s.pt), .val (.bool s.dd), .val (.int .i64 s.wr)]⟩, ⟨v1, .bytes s.l⟩]
   (ak (.val (.int .i64 (s.add a c key val).1)) [⟨vb,.obj [.ref 1 v0 6 0 0,.val (.int .i64 (a:Int)),.val (.int .i64 (c:Int))]⟩,⟨v0,.obj [.own 2 v1 1 0 (s.add a c key val).2.l.length,.val (.int .i64 ((s.add a c key val).2.k:Int)),.val (.int .i64 (s.add a c key val).2.ar),.val (.int .i64 (s.add a c key val).2.pt),.val (.bool (s.add a c key val).2.dd),.val (.int .i64 (s.add a c key val).2.wr)]⟩,⟨v1,.bytes (s.add a c key val).2.l⟩] []):=by
 have hx:s.cZ a c=(s.l.drop (a*k)).take (c*k):=by unfold U.cZ;rw[g.k]
 have hb:=g.lP p
 have He:=hb.int
 have mu:=hb.len
 have hw:=g.wr
 refine ax ai Tryz.func81 rfl Tryz.ntmps81 Tryz.results81 ?_
 refine gg ?_
 refine⟨fun h=> ?_,fun h=> ?_⟩
 ·have hc:key.length<1∨255<key.length∨65536<val.length:=by
    simp only[Bool.or_eq_true,decide_eq_true_eq] at h;omega
  refine gg ?_
  have hf:s.add a c key val=(1,s):=by unfold U.add;rw[if_pos hc]
  rw[hf]
  exact⟨_,rfl,rfl,trivial⟩
 have hc:¬(key.length<1∨255<key.length∨65536<val.length):=by
  simp only[Bool.or_eq_false_iff,decide_eq_false_iff_not] at h;omega
 refine gg ?_
 by_cases hd:s.dd=true
 ·refine af (Cu s a c g p hd vb v0 v1) Tryz.call121 3 [0,1,2] [0,0,0] [] ?_
  refine gg ?_
  have hf:s.add a c key val=(6,s):=by unfold U.add;rw[if_neg hc,if_pos hd]
  rw[hf]
  exact⟨_,rfl,rfl,trivial⟩
 have hd:s.dd=false:=by simpa using hd
 refine af (Ct s a c g p hd _ hx vb v0 v1) Tryz.call121 (he:=⟨fun _=>⟨rfl,rfl,trivial,trivial⟩,fun _=>⟨trivial,trivial⟩,trivial,trivial⟩) 3 [0,1,2,0,0,0,0,0,0,0,0,0,0,0,0,0,0,0,0,0,0,0,0,0,0,0,0,0,0,0,0,0,0,0,0,0,0,0,0,0,0,0,0,0,0,0,0,0,0,0,0,0,0,0,0,0,0,0,0,0,0,0,0,0,0,0,0,0,0,0,0,0,0,0,0,0,0,0,0,0,0,0,0,0,0,0,0,0,0,0,0,0,0,0,36,0,0,0,37,0,0,0,0,0,38] [0,0,0,0,0,0,0,0,0,0,0,0,0,0,0,0,0,0,0,0,0,0,0,0,0,0,0,0,0,0,0,0,0,0,0,0,0,0,0,0,0,0,0,0,0,0,0,0,0,0,0,0,0,0,0,0,0,0,0,0,0,0,0,0,0,0,0,0,0,0,0,0,0,0,0,0,0,0,0,0,0,0,0,0,0,0,0,0,0,0,0,0,0,0,1,0,0,0,1,0,0,0,0,0,1] [94,98,104] ?_
 refine gg ?_
 have jF:s.scan a c=cu (s.cZ a c) 16:=rfl
 have jj:(s.cZ a c).length=c*k:=by
  rw[hx,List.length_take,List.length_drop];have:=p.fit;have:=g.l;omega
 have gA:=p.big
 have nu:=(yh (s.cZ a c) _ 16 rfl).2 (by omega)
 generalize cu (s.cZ a c) 16=S at jF nu
 obtain⟨fg,e,wh⟩:=S
 simp only at nu
 have hle:(e:Int)≤(c:Int)*s.k:=by
  rw[g.k]
  have he:e≤c*k:=by omega
  exact_mod_cast he
 dsimp only
 have pg:key.length≤255∧1≤key.length∧val.length≤65536:=by omega
 refine⟨fun h=> ?_,fun h=> ?_⟩
 ·have yi:wh=false:=by simpa using h
  refine gg ?_
  have hf:s.add a c key val=(12,s):=by unfold U.add;rw[if_neg hc,hd,jF];simp[yi]
  rw[hf]
  exact⟨_,rfl,rfl,trivial⟩
 have yi:wh=true:=by simpa using h
 refine gg ?_
 refine aY (qN key.length val.length (by omega) (by omega)) Tryz.call78 [] ?_
 refine gg ?_
 refine aY (yf s a c hb vb v0 v1) Tryz.call122 [0,1,2] ?_
 refine gg ?_
 refine⟨fun h=> ?_,fun h=> ?_⟩
 ·have oO:(c:Int)*s.k - (e:Int)<12+key.length+val.length:=of_decide_eq_true h
  refine gg ?_
  have hf:s.add a c key val=(5,s):=by unfold U.add;rw[if_neg hc,hd,jF];simp[yi,oO]
  rw[hf]
  exact⟨_,rfl,rfl,trivial⟩
 have mO:¬((c:Int)*s.k - (e:Int)<12+key.length+val.length):=of_decide_eq_false h
 have hf:s.add a c key val=s.jE ((a:Int)*s.k+(e:Int)) key val:=by unfold U.add;rw[if_neg hc,hd,jF];simp[yi,mO]
 have g1:=g.prog ((a:Int)*s.k+(e:Int)) [254]
 have ek:=g1.lP p
 have nc:(s.prog ((a:Int)*s.k+(e:Int)) [254]).2.k=s.k:=by rw[g1.k,g.k]
 have fM:([254]:List UInt8).length=1:=rfl
 have U4:=sJ key val
 have g2:=g1.prog ((a:Int)*s.k+(e:Int)+1) (bI key val)
 have jv:=g1.wr
 have iB:=g2.wr
 have kI:=g2.lP p
 refine gg ?_
 refine af (sN s a c hb (e:Int) (by unfold aX;omega) [254] 1 rfl (by decide) g.ar ⟨by omega,by show s.wr+1<_;omega⟩ vb v0 v1 1) Tryz.call123 4 [0,1,2,62] [0,0,0,0] [] ?_
 refine gg ?_
 have xR:(a:Int)*((s.prog ((a:Int)*s.k+(e:Int)) [254]).2.k:Int)+((e:Int)+1)=(a:Int)*s.k+(e:Int)+1:=by rw[nc,←Int.add_assoc]
 have uI:((s.prog ((a:Int)*s.k+(e:Int)) [254]).2.prog ((a:Int)*s.k+(e:Int)+1) (bI key val)).2.k=s.k:=by rw[g2.k,g.k]
 have sf:(a:Int)*(((s.prog ((a:Int)*s.k+(e:Int)) [254]).2.prog ((a:Int)*s.k+(e:Int)+1) (bI key val)).2.k:Int)+(e:Int)=(a:Int)*s.k+(e:Int):=by rw[uI]
 refine⟨fun h=> ?_,fun h=> ?_⟩
 ·have aG:(s.prog ((a:Int)*s.k+(e:Int)) [254]).1≠0:=by simpa using h
  refine gg ?_
  rw[hf];unfold U.jE;rw[if_pos aG]
  exact⟨_,rfl,rfl,trivial⟩
 have kP:(s.prog ((a:Int)*s.k+(e:Int)) [254]).1=0:=by simpa using h
 refine gg ?_
 refine af (G3 key val (by omega) (by omega) z z') Tryz.call124 0 [0,0,0,0,0,0,0,0,0,0,0,0,0,0,0,0,0,0,0,0,0,0,0,0,0,0,0,0,0,0,72] [0,0,0,0,0,0,0,0,0,0,0,0,0,0,0,0,0,0,0,0,0,0,0,0,0,0,0,0,0,0,1] [30] ?_
 refine gg ?_
 refine af (sN (s.prog ((a:Int)*s.k+(e:Int)) [254]).2 a c ek ((e:Int)+1) (by rw[xR];unfold aX;omega) (bI key val) (bI key val).length rfl (by omega) g1.ar ⟨by omega,by omega⟩ vb v0 v1 8) Tryz.call123 4 [0,1,2,72] [0,0,0,0] [] ?_
 rw[xR]
 refine gg ?_
 refine⟨fun h=> ?_,fun h=> ?_⟩
 ·have aG:((s.prog ((a:Int)*s.k+(e:Int)) [254]).2.prog ((a:Int)*s.k+(e:Int)+1) (bI key val)).1≠0:=by simpa using h
  refine gg ?_
  rw[hf];unfold U.jE;rw[if_neg (fun q=>q kP),if_pos aG]
  exact⟨_,rfl,rfl,trivial⟩
 have xx:((s.prog ((a:Int)*s.k+(e:Int)) [254]).2.prog ((a:Int)*s.k+(e:Int)+1) (bI key val)).1=0:=by simpa using h
 refine gg ?_
 refine af (sN ((s.prog ((a:Int)*s.k+(e:Int)) [254]).2.prog ((a:Int)*s.k+(e:Int)+1) (bI key val)).2 a c kI (e:Int) (by rw[sf];unfold aX;omega) [252] 1 rfl (by decide) g2.ar ⟨by omega,by show _+(1:Int)<_;omega⟩ vb v0 v1 1) Tryz.call123 4 [0,1,2,79] [0,0,0,0] [] ?_
 rw[sf]
 refine gg ?_
 rw[hf];unfold U.jE;rw[if_neg (fun q=>q kP),if_neg (fun q=>q xx)]
 exact⟨_,rfl,rfl,trivial⟩
end Go.Proofs.YtpbpiehcchannaaGreatDoor
