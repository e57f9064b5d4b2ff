/- Walks of lintellaw09: a store behind calls. Conditions: none. -/
import Derived.Test.YtpbpiehcchannaaGreatDoorJHj
import Derived.Test.YtpbpiehcchannaaGreatDoorJHq
namespace Go.Proofs.YtpbpiehcchannaaGreatDoor
open Go.RowKit
set_option linter.unusedVariables false
set_option linter.unusedSimpArgs false
set_option maxRecDepth 100000
set_option maxHeartbeats 1500000
theorem dP.obj(v:Nat){l l':List AV}(hl:l'.length=l.length)(h:∀(E:Env)(w:World)(vs:List Value),aw E w l vs→aw E w l' vs):dP ⟨v,.obj l⟩ ⟨v,.obj l'⟩:=by
 refine⟨rfl,fun _=>rfl,fun q=>by simp only[Bd.count] at q⊢;exact q,fun _ E w b h0=>⟨fun _=> ?_,fun _ _ _ q=>by cases q⟩,fun _ q=>by cases q⟩
 obtain⟨cur,T,lo,hi,h1,h2,h3,h4⟩:=h0.aO rfl
 refine⟨cur,T,lo,hi,h1,h2,by simp only[Bd.count,Bd.sz,hl] at h3⊢;exact h3,fun i ys hy=> ?_⟩
 simp only[Bd.at] at hy
 split at hy
 ·rename_i eL
  cases hy
  obtain⟨cs,k1,k2,k3⟩:=h4 i l (by simp[Bd.at,eL])
  simp only[Bd.sz,hl] at k1 k3⊢
  exact⟨cs,k1,h E w cs k2,k3⟩
 ·cases hy
theorem NO(s:J){W:Int}{n k:Nat}(g:av W n k s)(x:Nat)(hx:n=x*k)(fg:x%2=1∨(x/2)*k<64)(v0 v1:Nat):Spec Tryz.prog 17 [.ref 0 v0 6 0 0] [⟨v0,.obj [.own 1 v1 1 0 s.l.length,.val (.int .i64 (s.k:Int)),.val (.int .i64 s.ar),.val (.int .i64 s.pt),.val (.bool s.dd),.val (.int .i64 s.wr)]⟩,⟨v1,.bytes s.l⟩] (ak (.al [.val (.pointer none),.val (.int .i64 1)]) [⟨v0,.obj [.own 1 v1 1 0 s.l.length,.val (.int .i64 (s.k:Int)),.val (.int .i64 s.ar),.val (.int .i64 s.pt),.val (.bool s.dd),.val (.int .i64 s.wr)]⟩,⟨v1,.bytes s.l⟩] []):=by
 have cC:=g.kk
 have eA:=g.l
 have cu:=g.k
 have hlen:=g.len
 have rv:(s.l.length:Int)/(s.k:Int)=(x:Int):=by
  rw[eA,cu,hx,Int.natCast_mul,Int.mul_ediv_cancel _ (by omega)]
 have Qx:x≤4194304:=by
  have:x*1≤x*k:=Nat.mul_le_mul_left x cC.1
  omega
 have D6:(x/2)*k≤n:=by rw[hx];exact Nat.mul_le_mul_right k (Nat.div_le_self x 2)
 have kh:=s7 s (by omega) ⟨by omega,by omega⟩ v0 v1
 rw[rv] at kh
 have hdiv:((x:Int))/2=((x/2:Nat):Int):=by omega
 refine aq aj Tryz.func17 rfl Tryz.ntmps17 Tryz.results17 ?_
 refine gg (k:= ?_)
 refine aP (kh) Tryz.call66 [0,1] ?_
 refine gg (k:= ?_)
 rw[hdiv]
 refine aP (kh) Tryz.call66 [0,1] ?_
 refine gg (k:= ?_)
 by_cases hp:x%2=1
 ·rw[show((x:Int))%2=1 by omega]
  refine gg (k:= ?_)
  intro _
  refine gg (k:= ?_)
  exact⟨_,rfl,rfl,trivial⟩
 ·rw[show((x:Int))%2=0 by omega]
  have ai:(x/2)*k<64:=fg.resolve_left hp
  have cq:((x/2:Nat):Int)*(s.k:Int)=(((x/2)*k:Nat):Int):=by rw[cu];simp
  refine gg (k:= ?_)
  refine bD (k:= ?_)
  refine aP (pz s v0 v1) Tryz.call67 [0,1] ?_
  refine gg (k:= ?_)
  exact⟨_,rfl,rfl,trivial⟩
end Go.Proofs.YtpbpiehcchannaaGreatDoor
