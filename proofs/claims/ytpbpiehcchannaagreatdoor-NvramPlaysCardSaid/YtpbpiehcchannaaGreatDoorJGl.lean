/- Walks of bank: At, works. Walks of lintellaw08: works. The calls of no flash. Walks of lintellaw08: no bank. Conditions: the premises of each law. -/
import Derived.Test.YtpbpiehcchannaaGreatDoorJGk
import Derived.Test.YtpbpiehcchannaaGreatDoorJAw
import Derived.Test.YtpbpiehcchannaaGreatDoorJAc
import Derived.Test.YtpbpiehcchannaaGreatDoorJTb
namespace Go.Proofs.YtpbpiehcchannaaGreatDoor
open Go.RowKit
set_option linter.unusedVariables false
set_option linter.unusedSimpArgs false
set_option maxRecDepth 100000
set_option maxHeartbeats 1500000
theorem Ee {W : Int} {n k : Nat} (s : J) (a c : Nat) (g : av W n k s) (p : aC n k a c) (hs : (a : Int) + c ≤ (n : Int) / (k : Int)) (v0 v1 : Nat) : Spec Tryz.prog 68 [.ref 0 v0 6 0 0, .val (.int .i64 (a : Int)), .val (.int .i64 (c : Int))] [⟨v0, .obj [.own 1 v1 1 0 s.l.length, .val (.int .i64 (s.k : Int)), .val (.int .i64 s.ar), .val (.int .i64 s.pt), .val (.bool s.dd), .val (.int .i64 s.wr)]⟩, ⟨v1, .bytes s.l⟩]
   (ak (.al [.ref 45 1 3 0 0,.val (.int .i64 0)]) [⟨v0,.obj [.own 1 v1 1 0 s.l.length,.val (.int .i64 (s.k:Int)),.val (.int .i64 s.ar),.val (.int .i64 s.pt),.val (.bool s.dd),.val (.int .i64 s.wr)]⟩,⟨v1,.bytes s.l⟩] [(45,⟨1,.obj [.ref 0 v0 6 0 0,.val (.int .i64 (a:Int)),.val (.int .i64 (c:Int))]⟩)]):=by
 have hb:=g.eZ p
 have hi:=hb.int
 have hl:=hb.len
 have eA:=g.l
 have qV:=g.k
 have cC:=g.kk
 have zu:=p.ac
 have dz:=p.c1
 have eO:(64:Int)≤(c:Int)*s.k:=by rw[qV];exact_mod_cast p.fa
 rw[←eA,←qV] at hs
 refine aq aj Tryz.func68 rfl Tryz.ntmps68 Tryz.results68 ?_
 refine gg (k:= ?_)
 have e1:(decide ((c:Int)<1)||decide ((a:Int)<0))=false:=by
  rw[Bool.or_eq_false_iff,decide_eq_false_iff_not,decide_eq_false_iff_not];omega
 rw[e1]
 refine bD (k:= ?_)
 refine aP (s7 s (by omega) (by rw[qV];exact cC) v0 v1) Tryz.call66 [0,1] ?_
 refine gg (k:= ?_)
 have e2:(false||decide ((s.l.length:Int)/(s.k:Int)< (c:Int)))=false:=by
  rw[Bool.false_or,decide_eq_false_iff_not];omega
 rw[e2]
 refine bD (k:= ?_)
 refine aP (s7 s (by omega) (by rw[qV];exact cC) v0 v1) Tryz.call66 [0,1] ?_
 have hX:0≤(s.l.length:Int)/(s.k:Int)∧(s.l.length:Int)/(s.k:Int)≤s.l.length:=⟨Int.ediv_nonneg (by omega) (by omega),Int.ediv_le_self _ (by omega)⟩
 refine gg (k:= ?_)
 have e3:(false||decide ((s.l.length:Int)/(s.k:Int) - (c:Int)< (a:Int)))=false:=by
  rw[Bool.false_or,decide_eq_false_iff_not];omega
 rw[e3]
 refine bD (k:= ?_)
 refine aP (pz s v0 v1) Tryz.call67 [0,1] ?_
 refine gg (k:= ?_)
 have e4:(false||decide ((c:Int)*(s.k:Int)<64))=false:=by
  rw[Bool.false_or,decide_eq_false_iff_not];omega
 rw[e4]
 refine gg (k:= ?_)
 exact⟨_,rfl,rfl,rfl,trivial⟩
def J.new(x y:Nat):J:=⟨List.replicate (x*y) 255,y,0,0,false,0⟩
theorem Ef(x y:Nat)(h1:1≤x∧x≤64)(h2:16≤y∧y≤65536):Spec Tryz.prog 26 [.val (.int .i64 x),.val (.int .i64 y)] [] (ak (.al [.ref 27 1 6 0 0,.val (.int .i64 0)]) [] [(27,⟨1,.obj [.own 24 2 1 0 (J.new x y).l.length,.val (.int .i64 ((J.new x y).k:Int)),.val (.int .i64 (J.new x y).ar),.val (.int .i64 (J.new x y).pt),.val (.bool (J.new x y).dd),.val (.int .i64 (J.new x y).wr)]⟩),(24,⟨2,.bytes (J.new x y).l⟩)]):=by
 have h:=Ky x y h1 h2
 have e:(J.new x y).l.length=x*y:=by simp[J.new]
 rw[e]
 exact h
theorem av.new(x y:Nat)(h1:1≤x∧x≤64)(h2:16≤y∧y≤65536):av 0 (x*y) y (J.new x y):=by
 have:x*y≤64*65536:=Nat.mul_le_mul h1.2 h2.2
 exact⟨by omega,by omega,by simp[J.new,aG],by simp[J.new,aG],by simp[J.new],by simp[J.new],rfl⟩
end Go.Proofs.YtpbpiehcchannaaGreatDoor
namespace Go.Proofs.YtpbpiehcchannaaGreatDoor
open Go.RowKit
set_option linter.unusedVariables false
set_option linter.unusedSimpArgs false
set_option maxRecDepth 100000
set_option maxHeartbeats 1500000
theorem av.format{B:Int}{n k:Nat}{s:J}(h:av B n k s)(a c:Nat)(gen:Int):av (B+c+12) n k (s.format a c gen).2:=by
 unfold J.format
 split
 ·have:=(h.bC a c).prog ((a:Int)*s.k) (dE gen)
  rw[j7] at this
  exact this
 ·exact(h.bC a c).mono (by omega)
theorem av.iE{B:Int}{n k:Nat}{s:J}(h:av B n k s)(q:Int)(x v:List UInt8):av (B+1+(bA x v).length+1) n k (s.iE q x v).2:=by
 have h1:=h.prog q [254]
 have h2:=h1.prog (q+1) (bA x v)
 have h3:=h2.prog q [252]
 unfold J.iE
 split
 ·exact h1.mono (by show B+1≤_;omega)
 ·split
  ·exact h2.mono (by show B+1+_≤_;omega)
  ·exact h3
theorem av.add{B:Int}{n k:Nat}{s:J}(h:av B n k s)(a c:Nat)(x v:List UInt8):av (B+65804) n k (s.add a c x v).2:=by
 unfold J.add
 split
 ·exact h.mono (by omega)
 ·rename_i hc
  have hl:=pw x v
  split
  ·exact h.mono (by omega)
  ·split
   ·exact h.mono (by omega)
   ·split
    ·exact h.mono (by omega)
    ·exact(h.iE _ x v).mono (by omega)
theorem av.kill{B:Int}{n k:Nat}{s:J}(h:av B n k s)(a c:Nat)(i:Int):av (B+1) n k (s.kill a c i).2:=by
 unfold J.kill
 split
 ·exact h.mono (by omega)
 ·split
  ·exact h.mono (by omega)
  ·exact h.prog _ [248]
end Go.Proofs.YtpbpiehcchannaaGreatDoor
namespace Go.Proofs.YtpbpiehcchannaaGreatDoor
open Go.RowKit
set_option linter.unusedVariables false
set_option linter.unusedSimpArgs false
set_option maxRecDepth 100000
set_option maxHeartbeats 1500000
end Go.Proofs.YtpbpiehcchannaaGreatDoor
namespace Go.Proofs.YtpbpiehcchannaaGreatDoor
open Go.RowKit
set_option linter.unusedVariables false
set_option linter.unusedSimpArgs false
set_option maxRecDepth 100000
set_option maxHeartbeats 1500000
end Go.Proofs.YtpbpiehcchannaaGreatDoor
