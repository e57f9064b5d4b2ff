/- A book beside a map, and puts one behind the other: walks and plain law. Walks of lintellaw21: twin, filled, long, names. Walks of lintellaw21: long. Conditions: the premises of each law. -/
import Derived.Test.YtpbpiehcchannaaGreatDoorJKm2
import Derived.Test.YtpbpiehcchannaaGreatDoorJKk
namespace Go.Proofs.YtpbpiehcchannaaGreatDoor
open Go.RowKit
set_option linter.unusedVariables false
set_option linter.unusedSimpArgs false
set_option maxRecDepth 100000
set_option maxHeartbeats 1500000
structure VOk(v:VarV):Prop where
 ok:v.Ok
 r:rightN v.nm=true
 t:v.t.good
 d:v.d.length≤65484
def rcdV(v:VarV):RK:=⟨keyV v.nm v.g,laidV v,true⟩
def RecB(r:RK):Prop:=(∃v:VarV,VOk v∧r=rcdV v)∨∃x:UInt8,r=⟨markK,[x],true⟩
theorem putOk_VOk{v:VarV}(hv:v.Ok)(h:putOk v=true):VOk v:=by
 unfold putOk at h
 simp only[Bool.and_eq_true,Bool.or_eq_true,decide_eq_true_eq] at h
 refine⟨hv,h.1.1,⟨hv.t,?_⟩,h.2⟩
 rcases h.1.2 with h1 | h1
 ·exact .inr h1
 ·left
  unfold Tm.nil at h1
  simp only[Bool.and_eq_true,decide_eq_true_eq] at h1
  obtain⟨nm,g,a,⟨y,m,d,h,mi,s⟩,o,d'⟩:=v
  simp only at h1
  obtain⟨⟨⟨⟨⟨rfl,rfl⟩,rfl⟩,rfl⟩,rfl⟩,rfl⟩:=h1
  rfl
theorem VOk.put{v:VarV}(h:VOk v):putOk v=true:=by
 unfold putOk
 rw[h.r,decide_eq_true h.d,Bool.true_and,Bool.and_true,Bool.or_eq_true]
 rcases h.t.2 with h1 | h1
 ·right;rw[h1];rfl
 ·exact .inl h1
def kputP(s:FlS)(v:VarV):Int×FlS:=if putOk v=true then s.set 1 (keyV v.nm v.g) (laidV v) else(1,s)
theorem kput_vc {W : Int} {n k : Nat} (s : FlS) (go : Goes W n k s) (hW : W ≤ 1000000000000000) (pa : Lies n k 0 1) (pb : Lies n k 1 1) (hd : s.dd = false) (v : VarV) (hv : v.Ok) (z vk vs va vb v0 v1 : Nat) : Spec Tryz.prog 59 [.ref 0 vk 1 0 0, .agg (varA (.bs z v.d) v)] [⟨vk, .obj [.ref 1 vs 3 0 0]⟩, ⟨vs, .obj [.ref 4 v0 6 0 0, .ref 2 va 3 0 0, .ref 3 vb 3 0 0]⟩, ⟨va, .obj [.ref 4 v0 6 0 0, .val (.int .i64 ((0 : Nat) : Int)), .val (.int .i64 (1 : Int))]⟩, ⟨vb, .obj [.ref 4 v0 6 0 0, .val (.int .i64 (1 : Int)), .val (.int .i64 (1 : Int))]⟩, ⟨v0, .obj [.own 5 v1 1 0 s.l.length, .val (.int .i64 (s.k : Int)), .val (.int .i64 s.ar), .val (.int .i64 s.pt), .val (.bool s.dd), .val (.int .i64 s.wr)]⟩, ⟨v1, .bytes s.l⟩]
   (pms (.val (.int .i64 (kputP s v).1)) [⟨vk,.obj [.ref 1 vs 3 0 0]⟩,⟨vs,.obj [.ref 4 v0 6 0 0,.ref 2 va 3 0 0,.ref 3 vb 3 0 0]⟩,⟨va,.obj [.ref 4 v0 6 0 0,.val (.int .i64 ((0:Nat):Int)),.val (.int .i64 (1:Int))]⟩,⟨vb,.obj [.ref 4 v0 6 0 0,.val (.int .i64 (1:Int)),.val (.int .i64 (1:Int))]⟩,⟨v0,.obj [.own 5 v1 1 0 (kputP s v).2.l.length,.val (.int .i64 ((kputP s v).2.k:Int)),.val (.int .i64 (kputP s v).2.ar),.val (.int .i64 (kputP s v).2.pt),.val (.bool (kputP s v).2.dd),.val (.int .i64 (kputP s v).2.wr)]⟩,⟨v1,.bytes (kputP s v).2.l⟩] []):=by
 cases h:putOk v with
 | true=>
  have h2:=putOk_VOk hv h
  rw[show kputP s v=s.set 1 (keyV v.nm v.g) (laidV v) from if_pos h]
  exact put_kv s 1 go hW pa pb hd v hv h2.r h2.t h2.d z vk vs va vb v0 v1
 | false=>
  rw[show kputP s v=(1,s) from if_neg (by rw[h];simp)]
  exact kput_bad s 1 v hv h z vk vs va vb v0 v1
theorem kput_own {W : Int} {n k : Nat} (s : FlS) (go : Goes W n k s) (hW : W ≤ 1000000000000000) (pa : Lies n k 0 1) (pb : Lies n k 1 1) (hd : s.dd = false) (v : VarV) (hv : v.Ok) (dn : Nat) (hdn : dn = v.d.length) (vk vs va vb v0 v1 v2 : Nat) : Spec Tryz.prog 59 [.ref 0 vk 1 0 0, .agg (varA (.own 6 v2 1 0 dn) v)] [⟨vk, .obj [.ref 1 vs 3 0 0]⟩, ⟨vs, .obj [.ref 4 v0 6 0 0, .ref 2 va 3 0 0, .ref 3 vb 3 0 0]⟩, ⟨va, .obj [.ref 4 v0 6 0 0, .val (.int .i64 ((0 : Nat) : Int)), .val (.int .i64 (1 : Int))]⟩, ⟨vb, .obj [.ref 4 v0 6 0 0, .val (.int .i64 (1 : Int)), .val (.int .i64 (1 : Int))]⟩, ⟨v0, .obj [.own 5 v1 1 0 s.l.length, .val (.int .i64 (s.k : Int)), .val (.int .i64 s.ar), .val (.int .i64 s.pt), .val (.bool s.dd), .val (.int .i64 s.wr)]⟩, ⟨v1, .bytes s.l⟩, ⟨v2, .bytes v.d⟩]
   (pms (.val (.int .i64 (kputP s v).1)) [⟨vk,.obj [.ref 1 vs 3 0 0]⟩,⟨vs,.obj [.ref 4 v0 6 0 0,.ref 2 va 3 0 0,.ref 3 vb 3 0 0]⟩,⟨va,.obj [.ref 4 v0 6 0 0,.val (.int .i64 ((0:Nat):Int)),.val (.int .i64 (1:Int))]⟩,⟨vb,.obj [.ref 4 v0 6 0 0,.val (.int .i64 (1:Int)),.val (.int .i64 (1:Int))]⟩,⟨v0,.obj [.own 5 v1 1 0 (kputP s v).2.l.length,.val (.int .i64 ((kputP s v).2.k:Int)),.val (.int .i64 (kputP s v).2.ar),.val (.int .i64 (kputP s v).2.pt),.val (.bool (kputP s v).2.dd),.val (.int .i64 (kputP s v).2.wr)]⟩,⟨v1,.bytes (kputP s v).2.l⟩,⟨v2,.bytes v.d⟩] []):=by
 subst hdn
 have e:=whole v.d
 have hS:=kput_vc s go hW pa pb hd v hv 0 vk vs va vb v0 v1
 rw[←e] at hS
 have h:=spec_rx hS (R:=[⟨v2,.bytes v.d⟩]) (args:=[.ref 0 vk 1 0 0,.agg (varA (.own 6 v2 1 0 v.d.length) v)])
  trivial ⟨⟨trivial,trivial⟩,⟨trivial,trivial,trivial,trivial⟩,⟨trivial,trivial,trivial,trivial⟩,⟨trivial,trivial,trivial,trivial⟩,⟨trivial,trivial,trivial,trivial,trivial,trivial,trivial⟩,trivial,trivial⟩ ⟨⟨(by decide:1<6),trivial⟩,⟨(by decide:4<6),(by decide:2<6),(by decide:3<6),trivial⟩,⟨(by decide:4<6),trivial,trivial,trivial⟩,⟨(by decide:4<6),trivial,trivial,trivial⟩,⟨(by decide:5<6),trivial,trivial,trivial,trivial,trivial,trivial⟩,trivial,trivial⟩ ⟨⟨trivial,trivial⟩,⟨trivial,trivial,trivial,trivial⟩,⟨trivial,trivial,trivial,trivial⟩,⟨trivial,trivial,trivial,trivial⟩,⟨trivial,trivial,trivial,trivial,trivial,trivial,trivial⟩,trivial,trivial⟩ rfl trivial trivial
  (asX_cons (aX_same trivial (by decide:0<6)) (asX_cons (aX_agg (varA_asX (aX_own (q:=0) (l:=v.d) rfl (by omega)) v)) asX_nil))
 exact h
structure NB(s:FlS)(y i:Nat)(M:List RK):Prop where
 ex:∃G:Int,G≤i+1∧NM s 1 y G M
 go:Goes (14+i*300000000000) (2*y) y s
 rc:∀r∈M,RecB r
 len:M.length≤i
theorem NB.live{s:FlS}{y i:Nat}{M:List RK}(h:NB s y i M):s.dd=false:=by
 obtain⟨G,_,h1⟩:=h.ex
 exact h1.live
theorem NB.lk{s:FlS}{y i:Nat}{M:List RK}(h:NB s y i M):LK s 1 M:=by
 obtain⟨G,_,h1⟩:=h.ex
 exact h1.lk
theorem lie0{y:Nat}(hy:128≤y∧y≤2175):Lies (2*y) y 0 1:=⟨by omega,by omega,by omega,by omega⟩
theorem lie1{y:Nat}(hy:128≤y∧y≤2175):Lies (2*y) y 1 1:=⟨by omega,by omega,by omega,by omega⟩
theorem setM_len(M:List RK)(key val:List UInt8):(setM M key val).length≤M.length+1:=by
 unfold setM
 rw[List.length_append]
 have:=List.length_filter_le (fun r:RK=>r.key !=key) M
 simp only[List.length_cons,List.length_nil]
 omega
theorem NB.up{s:FlS}{y i:Nat}{M:List RK}(h:NB s y i M):NB s y (i+1) M:=by
 obtain⟨G,h1,h2⟩:=h.ex
 refine⟨⟨G,by push_cast;omega,h2⟩,h.go.mono (by push_cast;omega),h.rc,?_⟩
 have:=h.len
 omega
theorem NB.set {s : FlS} {y i : Nat} {M : List RK} (h : NB s y i M) (hy : 128 ≤ y ∧ y ≤ 2175) (hi : i ≤ 1000) {key val : List UInt8} (hk : 1 ≤ key.length ∧ key.length ≤ 255) (hv : val.length ≤ 65536) (hr : RecB ⟨key, val, true⟩) :
    (s.set 1 key val=(5,s)∧NB s y (i+1) M)∨(∃s',s.set 1 key val=(0,s')∧NB s' y (i+1) (setM M key val)):=by
 obtain⟨G,h1,h2⟩:=h.ex
 have hgo:=h.go.set (lie0 hy) (lie1 hy) key val
 obtain⟨a,b⟩:=h2.set (by omega) (by omega) hk hv
 by_cases hf:1*y - 16<usedK M+(12+key.length+val.length)
 ·exact .inl ⟨a hf,h.up⟩
 ·obtain⟨s',e,n⟩:=b (by omega)
  right
  rw[e] at hgo
  refine⟨s',e,⟨G+1,by push_cast;omega,n⟩,hgo.mono (by push_cast;omega),?_,?_⟩
  ·intro r hr'
   unfold setM at hr'
   rcases List.mem_append.1 hr' with q | q
   ·exact h.rc r (List.mem_filter.1 q).1
   ·rw[List.mem_singleton] at q;subst q;exact hr
  ·have:=setM_len M key val
   have:=h.len
   omega
theorem keyV_len{v:VarV}(h:VOk v):1≤(keyV v.nm v.g).length∧(keyV v.nm v.g).length≤255:=by
 have:=h.r
 unfold rightN at this
 simp only[Bool.and_eq_true,decide_eq_true_eq] at this
 unfold keyV
 rw[List.length_append,h.ok.g]
 simp only[Array.length_toList,ByteArray.size_data]
 omega
theorem NB.put {s : FlS} {y i : Nat} {M : List RK} (h : NB s y i M) (hy : 128 ≤ y ∧ y ≤ 2175) (hi : i ≤ 1000) (v : VarV) (hv : v.Ok) :
    (NB (kputP s v).2 y (i+1) M∧(kputP s v).1≠0)∨(VOk v∧NB (kputP s v).2 y (i+1) (setM M (keyV v.nm v.g) (laidV v))∧(kputP s v).1=0):=by
 cases hP:putOk v with
 | false=>
  rw[show kputP s v=(1,s) from if_neg (by rw[hP];simp)]
  exact .inl ⟨h.up,(by decide:(1:Int)≠0)⟩
 | true=>
  have h2:=putOk_VOk hv hP
  rw[show kputP s v=s.set 1 (keyV v.nm v.g) (laidV v) from if_pos hP]
  rcases h.set hy hi (keyV_len h2) (val:=laidV v) (by rw[laid_len hv];have:=h2.d;omega) (.inl ⟨v,h2,rfl⟩) with⟨e,n⟩ | ⟨s',e,n⟩
  ·rw[e];exact .inl ⟨n,(by decide:(5:Int)≠0)⟩
  ·rw[e];exact .inr ⟨h2,n,rfl⟩
end Go.Proofs.YtpbpiehcchannaaGreatDoor
namespace Go.Proofs.YtpbpiehcchannaaGreatDoor
open Go.RowKit
set_option linter.unusedVariables false
set_option linter.unusedSimpArgs false
set_option maxRecDepth 100000
set_option maxHeartbeats 1500000
theorem twin21_raw(z:Nat)(m:List UInt8)(hl:m.length≤140737488355328):Spec Tryz.prog 96 [.bs z m] [] (pms (.own 3 2 1 0 m.length) [] [(3,⟨2,.bytes m⟩)]):=by
 refine spec_entry tbOk Tryz.func96 rfl Tryz.ntmps96 Tryz.results96 ?_
 refine gg (k:= ?_)
 conv=>whnf
 refine⟨m,?_⟩
 conv=>whnf
 refine And.intro ?_ ?_
 ·refine⟨rfl,trivial,rfl,rfl,rfl,rfl,rfl,rfl,?_,by decide⟩
  simp only[List.map_nil,List.length_nil]
  omega
 refine gg (k:= ?_)
 refine⟨_,?_,rfl,rfl,trivial⟩
 simp only[retV,List.map_nil,List.length_nil,Nat.zero_add]
end Go.Proofs.YtpbpiehcchannaaGreatDoor
namespace Go.Proofs.YtpbpiehcchannaaGreatDoor
open Go.RowKit
set_option linter.unusedVariables false
set_option linter.unusedSimpArgs false
set_option maxRecDepth 100000
set_option maxHeartbeats 1500000
end Go.Proofs.YtpbpiehcchannaaGreatDoor
