/- A book beside a map, and puts one behind the other: walks and plain law. Walks of lintellaw21: twin, filled, long, names. Walks of lintellaw21: long. Conditions: the premises of each law. -/
import Derived.Test.YtpbpiehcchannaaGreatDoorJKm2
import Derived.Test.YtpbpiehcchannaaGreatDoorJKk
namespace Go.Proofs.YtpbpiehcchannaaGreatDoor
set_option linter.unusedVariables false
set_option linter.unusedSimpArgs false
set_option maxRecDepth 100000
set_option maxHeartbeats 1500000
open Go.RowKit
structure gq(v:aU):Prop where
 ok:v.Ok
 r:bM v.nm=true
 t:v.t.pN
 d:v.d.length≤65484
def gE(v:aU):RK:=⟨aO v.nm v.g,bh v,true⟩
def eC(r:RK):Prop:=(∃v:aU,gq v∧r=gE v)∨∃x:UInt8,r=⟨bQ,[x],true⟩
theorem yP{v:aU}(hv:v.Ok)(h:fA v=true):gq v:=by
 unfold fA at h
 simp only[Bool.and_eq_true,Bool.or_eq_true,decide_eq_true_eq] at h
 refine⟨hv,h.1.1,⟨hv.t,?_⟩,h.2⟩
 rcases h.1.2 with h1 | h1
 ·exact .inr h1
 ·left
  unfold Tm.nil at h1
  simp only[Bool.and_eq_true,decide_eq_true_eq] at h1
  obtain⟨nm,g,a,⟨y,m,d,h,mi,s⟩,o,d'⟩:=v
  simp only at h1
  obtain⟨⟨⟨⟨⟨rfl,rfl⟩,rfl⟩,rfl⟩,rfl⟩,rfl⟩:=h1
  rfl
def dq(s:U)(v:aU):Int×U:=if fA v=true then s.set 1 (aO v.nm v.g) (bh v) else(1,s)
theorem Q8 {W : Int} {n k : Nat} (s : U) (go : aw W n k s) (hW : W ≤ 1000000000000000) (pa : aA n k 0 1) (pb : aA n k 1 1) (hd : s.dd = false) (v : aU) (hv : v.Ok) (z vk vs va vb v0 v1 : Nat) : Spec Tryz.prog 59 [.ref 0 vk 1 0 0, .agg (aV (.bs z v.d) v)] [⟨vk, .obj [.ref 1 vs 3 0 0]⟩, ⟨vs, .obj [.ref 4 v0 6 0 0, .ref 2 va 3 0 0, .ref 3 vb 3 0 0]⟩, ⟨va, .obj [.ref 4 v0 6 0 0, .val (.int .i64 ((0 : Nat) : Int)), .val (.int .i64 (1 : Int))]⟩, ⟨vb, .obj [.ref 4 v0 6 0 0, .val (.int .i64 (1 : Int)), .val (.int .i64 (1 : Int))]⟩, ⟨v0, .obj [.own 5 v1 1 0 s.l.length, .val (.int .i64 (s.k : Int)), .val (.int .i64 s.ar), .val (.int .i64 s.pt), .val (.bool s.dd), .val (.int .i64 s.wr)]⟩, ⟨v1, .bytes s.l⟩]
   (ak (.val (.int .i64 (dq s v).1)) [⟨vk,.obj [.ref 1 vs 3 0 0]⟩,⟨vs,.obj [.ref 4 v0 6 0 0,.ref 2 va 3 0 0,.ref 3 vb 3 0 0]⟩,⟨va,.obj [.ref 4 v0 6 0 0,.val (.int .i64 ((0:Nat):Int)),.val (.int .i64 (1:Int))]⟩,⟨vb,.obj [.ref 4 v0 6 0 0,.val (.int .i64 (1:Int)),.val (.int .i64 (1:Int))]⟩,⟨v0,.obj [.own 5 v1 1 0 (dq s v).2.l.length,.val (.int .i64 ((dq s v).2.k:Int)),.val (.int .i64 (dq s v).2.ar),.val (.int .i64 (dq s v).2.pt),.val (.bool (dq s v).2.dd),.val (.int .i64 (dq s v).2.wr)]⟩,⟨v1,.bytes (dq s v).2.l⟩] []):=by
 cases h:fA v with
 | true=>
  have h2:=yP hv h
  rw[show dq s v=s.set 1 (aO v.nm v.g) (bh v) from if_pos h]
  exact I6 s 1 go hW pa pb hd v hv h2.r h2.t h2.d z vk vs va vb v0 v1
 | false=>
  rw[show dq s v=(1,s) from if_neg (by rw[h];simp)]
  exact QW s 1 v hv h z vk vs va vb v0 v1
theorem Q9 {W : Int} {n k : Nat} (s : U) (go : aw W n k s) (hW : W ≤ 1000000000000000) (pa : aA n k 0 1) (pb : aA n k 1 1) (hd : s.dd = false) (v : aU) (hv : v.Ok) (dn : Nat) (Dx : dn = v.d.length) (vk vs va vb v0 v1 v2 : Nat) : Spec Tryz.prog 59 [.ref 0 vk 1 0 0, .agg (aV (.own 6 v2 1 0 dn) v)] [⟨vk, .obj [.ref 1 vs 3 0 0]⟩, ⟨vs, .obj [.ref 4 v0 6 0 0, .ref 2 va 3 0 0, .ref 3 vb 3 0 0]⟩, ⟨va, .obj [.ref 4 v0 6 0 0, .val (.int .i64 ((0 : Nat) : Int)), .val (.int .i64 (1 : Int))]⟩, ⟨vb, .obj [.ref 4 v0 6 0 0, .val (.int .i64 (1 : Int)), .val (.int .i64 (1 : Int))]⟩, ⟨v0, .obj [.own 5 v1 1 0 s.l.length, .val (.int .i64 (s.k : Int)), .val (.int .i64 s.ar), .val (.int .i64 s.pt), .val (.bool s.dd), .val (.int .i64 s.wr)]⟩, ⟨v1, .bytes s.l⟩, ⟨v2, .bytes v.d⟩]
   (ak (.val (.int .i64 (dq s v).1)) [⟨vk,.obj [.ref 1 vs 3 0 0]⟩,⟨vs,.obj [.ref 4 v0 6 0 0,.ref 2 va 3 0 0,.ref 3 vb 3 0 0]⟩,⟨va,.obj [.ref 4 v0 6 0 0,.val (.int .i64 ((0:Nat):Int)),.val (.int .i64 (1:Int))]⟩,⟨vb,.obj [.ref 4 v0 6 0 0,.val (.int .i64 (1:Int)),.val (.int .i64 (1:Int))]⟩,⟨v0,.obj [.own 5 v1 1 0 (dq s v).2.l.length,.val (.int .i64 ((dq s v).2.k:Int)),.val (.int .i64 (dq s v).2.ar),.val (.int .i64 (dq s v).2.pt),.val (.bool (dq s v).2.dd),.val (.int .i64 (dq s v).2.wr)]⟩,⟨v1,.bytes (dq s v).2.l⟩,⟨v2,.bytes v.d⟩] []):=by
 subst Dx
 have e:=whole v.d
 have hS:=Q8 s go hW pa pb hd v hv 0 vk vs va vb v0 v1
 rw[←e] at hS
 have h:=n9 hS (R:=[⟨v2,.bytes v.d⟩]) (args:=[.ref 0 vk 1 0 0,.agg (aV (.own 6 v2 1 0 v.d.length) v)])
  trivial ⟨⟨trivial,trivial⟩,⟨trivial,trivial,trivial,trivial⟩,⟨trivial,trivial,trivial,trivial⟩,⟨trivial,trivial,trivial,trivial⟩,⟨trivial,trivial,trivial,trivial,trivial,trivial,trivial⟩,trivial,trivial⟩ ⟨⟨(by decide:1<6),trivial⟩,⟨(by decide:4<6),(by decide:2<6),(by decide:3<6),trivial⟩,⟨(by decide:4<6),trivial,trivial,trivial⟩,⟨(by decide:4<6),trivial,trivial,trivial⟩,⟨(by decide:5<6),trivial,trivial,trivial,trivial,trivial,trivial⟩,trivial,trivial⟩ ⟨⟨trivial,trivial⟩,⟨trivial,trivial,trivial,trivial⟩,⟨trivial,trivial,trivial,trivial⟩,⟨trivial,trivial,trivial,trivial⟩,⟨trivial,trivial,trivial,trivial,trivial,trivial,trivial⟩,trivial,trivial⟩ rfl trivial trivial
  (fO (mq trivial (by decide:0<6)) (fO (Jf (Jg (oc (q:=0) (l:=v.d) rfl (by omega)) v)) mo))
 exact h
theorem tg{y:Nat}(hy:128≤y∧y≤2175):aA (2*y) y 0 1:=⟨by omega,by omega,by omega,by omega⟩
theorem tj{y:Nat}(hy:128≤y∧y≤2175):aA (2*y) y 1 1:=⟨by omega,by omega,by omega,by omega⟩
theorem DA{v:aU}(h:gq v):1≤(aO v.nm v.g).length∧(aO v.nm v.g).length≤255:=by
 have:=h.r
 unfold bM at this
 simp only[Bool.and_eq_true,decide_eq_true_eq] at this
 unfold aO
 rw[List.length_append,h.ok.g]
 simp only[Array.length_toList,ByteArray.size_data]
 omega
theorem lU(z:Nat)(m:List UInt8)(hl:m.length≤140737488355328):Spec Tryz.prog 96 [.bs z m] [] (ak (.own 3 2 1 0 m.length) [] [(3,⟨2,.bytes m⟩)]):=by
 refine ax ai Tryz.func96 rfl Tryz.ntmps96 Tryz.results96 ?_
 refine gg ?_
 conv=>whnf
 refine⟨m,?_⟩
 conv=>whnf
 refine And.intro ?_ ?_
 ·refine⟨rfl,trivial,rfl,rfl,rfl,rfl,rfl,rfl,?_,by decide⟩
  simp only[List.map_nil,List.length_nil]
  omega
 refine gg ?_
 refine⟨_,?_,rfl,rfl,trivial⟩
 simp only[lA,List.map_nil,List.length_nil,Nat.zero_add]
end Go.Proofs.YtpbpiehcchannaaGreatDoor
