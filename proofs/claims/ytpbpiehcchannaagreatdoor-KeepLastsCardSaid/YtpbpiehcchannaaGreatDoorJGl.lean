/- Walks of bank: At, works. Walks of lintellaw08: works. The calls of no flash. Walks of lintellaw08: no bank. Conditions: the premises of each law. -/
import Derived.Test.YtpbpiehcchannaaGreatDoorJGk
namespace Go.Proofs.YtpbpiehcchannaaGreatDoor
set_option linter.unusedVariables false
set_option linter.unusedSimpArgs false
set_option maxRecDepth 100000
set_option maxHeartbeats 1500000
open Go.RowKit
theorem Hg {W : Int} {n k : Nat} (s : U) (a c : Nat) (g : aw W n k s) (p : aA n k a c) (hs : (a : Int) + c ≤ (n : Int) / (k : Int)) (v0 v1 : Nat) : Spec Tryz.prog 68 [.ref 0 v0 6 0 0, .val (.int .i64 (a : Int)), .val (.int .i64 (c : Int))] [⟨v0, .obj [.own 1 v1 1 0 s.l.length, .val (.int .i64 (s.k : Int)), .val (.int .i64 s.ar), .val (.int .i64 s.pt), .val (.bool s.dd), .val (.int .i64 s.wr)]⟩, ⟨v1, .bytes s.l⟩]
   (ak (.aD [.ref 45 1 3 0 0,.val (.int .i64 0)]) [⟨v0,.obj [.own 1 v1 1 0 s.l.length,.val (.int .i64 (s.k:Int)),.val (.int .i64 s.ar),.val (.int .i64 s.pt),.val (.bool s.dd),.val (.int .i64 s.wr)]⟩,⟨v1,.bytes s.l⟩] [(45,⟨1,.obj [.ref 0 v0 6 0 0,.val (.int .i64 (a:Int)),.val (.int .i64 (c:Int))]⟩)]):=by
 have hb:=g.lP p
 have hi:=hb.int
 have hl:=hb.len
 have jg:=g.l
 have yj:=g.k
 have gn:=g.kk
 have Oh:=p.ac
 have eL:=p.c1
 have gA:(64:Int)≤(c:Int)*s.k:=by rw[yj];exact_mod_cast p.big
 rw[←jg,←yj] at hs
 refine ax ai Tryz.func68 rfl Tryz.ntmps68 Tryz.results68 ?_
 refine gg ?_
 have e1:(decide ((c:Int)<1)||decide ((a:Int)<0))=false:=by
  rw[Bool.or_eq_false_iff,decide_eq_false_iff_not,decide_eq_false_iff_not];omega
 rw[e1]
 refine ji (k:= ?_)
 refine aY (Ck s (by omega) (by rw[yj];exact gn) v0 v1) Tryz.call66 [0,1] ?_
 refine gg ?_
 have e2:(false||decide ((s.l.length:Int)/(s.k:Int)< (c:Int)))=false:=by
  rw[Bool.false_or,decide_eq_false_iff_not];omega
 rw[e2]
 refine ji (k:= ?_)
 refine aY (Ck s (by omega) (by rw[yj];exact gn) v0 v1) Tryz.call66 [0,1] ?_
 have hX:0≤(s.l.length:Int)/(s.k:Int)∧(s.l.length:Int)/(s.k:Int)≤s.l.length:=⟨Int.ediv_nonneg (by omega) (by omega),Int.ediv_le_self _ (by omega)⟩
 refine gg ?_
 have e3:(false||decide ((s.l.length:Int)/(s.k:Int) - (c:Int)< (a:Int)))=false:=by
  rw[Bool.false_or,decide_eq_false_iff_not];omega
 rw[e3]
 refine ji (k:= ?_)
 refine aY (vD s v0 v1) Tryz.call67 [0,1] ?_
 refine gg ?_
 have e4:(false||decide ((c:Int)*(s.k:Int)<64))=false:=by
  rw[Bool.false_or,decide_eq_false_iff_not];omega
 rw[e4]
 refine gg ?_
 exact⟨_,rfl,rfl,rfl,trivial⟩
def U.new(x y:Nat):U:=⟨List.replicate (x*y) 255,y,0,0,false,0⟩
theorem Ov(x y:Nat)(h1:1≤x∧x≤64)(h2:16≤y∧y≤65536):Spec Tryz.prog 26 [.val (.int .i64 x),.val (.int .i64 y)] [] (ak (.aD [.ref 27 1 6 0 0,.val (.int .i64 0)]) [] [(27,⟨1,.obj [.own 24 2 1 0 (U.new x y).l.length,.val (.int .i64 ((U.new x y).k:Int)),.val (.int .i64 (U.new x y).ar),.val (.int .i64 (U.new x y).pt),.val (.bool (U.new x y).dd),.val (.int .i64 (U.new x y).wr)]⟩),(24,⟨2,.bytes (U.new x y).l⟩)]):=by
 have h:=NY x y h1 h2
 have e:(U.new x y).l.length=x*y:=by simp[U.new]
 rw[e]
 exact h
theorem aw.new(x y:Nat)(h1:1≤x∧x≤64)(h2:16≤y∧y≤65536):aw 0 (x*y) y (U.new x y):=by
 have:x*y≤64*65536:=Nat.mul_le_mul h1.2 h2.2
 exact⟨by omega,by omega,by simp[U.new,aX],by simp[U.new,aX],by simp[U.new],by simp[U.new],rfl⟩
theorem aw.format{B:Int}{n k:Nat}{s:U}(h:aw B n k s)(a c:Nat)(gen:Int):aw (B+c+12) n k (s.format a c gen).2:=by
 unfold U.format
 split
 ·have:=(h.cS a c).prog ((a:Int)*s.k) (cY gen)
  rw[jD] at this
  exact this
 ·exact(h.cS a c).mono (by omega)
theorem aw.jE{B:Int}{n k:Nat}{s:U}(h:aw B n k s)(q:Int)(x v:List UInt8):aw (B+1+(bI x v).length+1) n k (s.jE q x v).2:=by
 have h1:=h.prog q [254]
 have h2:=h1.prog (q+1) (bI x v)
 have h3:=h2.prog q [252]
 unfold U.jE
 split
 ·exact h1.mono (by show B+1≤_;omega)
 ·split
  ·exact h2.mono (by show B+1+_≤_;omega)
  ·exact h3
theorem aw.add{B:Int}{n k:Nat}{s:U}(h:aw B n k s)(a c:Nat)(x v:List UInt8):aw (B+65804) n k (s.add a c x v).2:=by
 unfold U.add
 split
 ·exact h.mono (by omega)
 ·rename_i hc
  have hl:=sJ x v
  split
  ·exact h.mono (by omega)
  ·split
   ·exact h.mono (by omega)
   ·split
    ·exact h.mono (by omega)
    ·exact(h.jE _ x v).mono (by omega)
theorem aw.kill{B:Int}{n k:Nat}{s:U}(h:aw B n k s)(a c:Nat)(i:Int):aw (B+1) n k (s.kill a c i).2:=by
 unfold U.kill
 split
 ·exact h.mono (by omega)
 ·split
  ·exact h.mono (by omega)
  ·exact h.prog _ [248]
end Go.Proofs.YtpbpiehcchannaaGreatDoor
