/- Walks of lintelref09: the map. Conditions: none. -/
import Derived.Test.YtpbpiehcchannaaGreatDoorJGf
import Derived.Test.YtpbpiehcchannaaGreatDoorJGa
import Derived.Test.YtpbpiehcchannaaGreatDoorJHa
namespace Go.Proofs.YtpbpiehcchannaaGreatDoor
open Go.RowKit
set_option linter.unusedVariables false
set_option linter.unusedSimpArgs false
set_option maxRecDepth 100000
set_option maxHeartbeats 1500000
def pI:List (List UInt8)→List UInt8→Nat
 | [],_=>0
 | k::r,key=>if k=key then 0 else 1+pI r key
theorem EP{fz:List (Nat×U)}{r ver n:Nat}{ks:List (List UInt8)}(he:getM fz r=some ⟨ver,.row 1 (fun k:List UInt8=>[AV.bs 0 k]) [] ks⟩)(hn:n=ks.length):AF fz (.own r ver 1 0 n) (.sl 0 1 (fun k:List UInt8=>[AV.bs 0 k]) [] ks):=
 AF.s9 he hn hn.symm fun i x y hx hy=>by
  rw[hx] at hy
  obtain rfl:=Option.some.inj hy
  exact af.cons AF.same af.nil
def il:List (List UInt8)→List UInt8→Nat
 | [],_=>0
 | k::r,key=>if Op.bytesLess k key=true then 1+il r key else 0
theorem Ga:∀(ks:List (List UInt8))(key:List UInt8),il ks key≤ks.length
 | [],_=>Nat.le_refl _
 | k::r,key=>by
  unfold il
  have:=Ga r key
  rw[List.length_cons]
  split<;>omega
theorem Gb:∀(ks:List (List UInt8))(key:List UInt8)(i:Nat),i≤il ks key→i<ks.length→Op.bytesLess (ks.getD i []) key=true→i+1≤il ks key
 | [],_,i,_,h,_=>absurd h (Nat.not_lt_zero _)
 | k::r,key,0,h1,h2,h3=>by
  have hk:Op.bytesLess k key=true:=by simpa using h3
  unfold il
  rw[if_pos hk];omega
 | k::r,key,i+1,h1,h2,h3=>by
  unfold il at h1⊢
  split at h1
  ·rename_i hk
   rw[if_pos hk]
   have:=Gb r key i (by omega) (by simpa using h2) (by simpa using h3)
   omega
  ·omega
theorem Gc:∀(ks:List (List UInt8))(key:List UInt8)(i:Nat),i≤il ks key→i<ks.length→Op.bytesLess (ks.getD i []) key=false→il ks key=i
 | [],_,i,_,h,_=>absurd h (Nat.not_lt_zero _)
 | k::r,key,0,h1,h2,h3=>by
  have hk:Op.bytesLess k key=false:=by simpa using h3
  unfold il
  rw[if_neg (by rw[hk];simp)]
 | k::r,key,i+1,h1,h2,h3=>by
  unfold il at h1⊢
  split at h1
  ·rename_i hk
   rw[if_pos hk,Gc r key i (by omega) (by simpa using h2) (by simpa using h3)]
   omega
  ·omega
def putAt(l:List (List UInt8))(p:Nat)(x:List UInt8):List (List UInt8):=l.take p++[x]++l.drop p
theorem Gd{l:List (List UInt8)}{p:Nat}{x:List UInt8}(h:p≤l.length):(putAt l p x).length=l.length+1:=by
 unfold putAt
 rw[List.length_append,List.length_append,List.length_take,List.length_drop,List.length_singleton];omega
end Go.Proofs.YtpbpiehcchannaaGreatDoor
