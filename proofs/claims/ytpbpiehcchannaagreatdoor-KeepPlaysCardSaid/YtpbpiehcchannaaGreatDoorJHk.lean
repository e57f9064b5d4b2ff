/- Get and Used of a store that is a map. What Keys tells: the sorted keys. Keys of a store that is a map. Delete of a store. Conditions: the premises of each law. -/
import Derived.Test.YtpbpiehcchannaaGreatDoorJHp
import Derived.Test.YtpbpiehcchannaaGreatDoorJHv
import Derived.Test.YtpbpiehcchannaaGreatDoorJHa
import Derived.Test.YtpbpiehcchannaaGreatDoorJHs
import Derived.Test.YtpbpiehcchannaaGreatDoorJNk2
namespace Go.Proofs.YtpbpiehcchannaaGreatDoor
open Go.RowKit
set_option linter.unusedVariables false
set_option linter.unusedSimpArgs false
set_option maxRecDepth 100000
set_option maxHeartbeats 1500000
theorem used0 {W : Int} {n k : Nat} (s : FlS) (c : Nat) (g : Goes W n k s) (pa : Lies n k 0 c) (pb : Lies n k c c) (hd : s.dd = false) (hi : (s.cnt c).1 = 0) {l : List Rc} {e : Nat} {b : Bool} (hS : s.scan 0 c = (l, e, b)) (vs va vb v0 v1 : Nat) : Spec Tryz.prog 74 [.ref 0 vs 3 0 0] [⟨vs, .obj [.ref 3 v0 6 0 0, .ref 1 va 3 0 0, .ref 2 vb 3 0 0]⟩, ⟨va, .obj [.ref 3 v0 6 0 0, .val (.int .i64 ((0 : Nat) : Int)), .val (.int .i64 (c : Int))]⟩, ⟨vb, .obj [.ref 3 v0 6 0 0, .val (.int .i64 (c : Int)), .val (.int .i64 (c : Int))]⟩, ⟨v0, .obj [.own 4 v1 1 0 s.l.length, .val (.int .i64 (s.k : Int)), .val (.int .i64 s.ar), .val (.int .i64 s.pt), .val (.bool s.dd), .val (.int .i64 s.wr)]⟩, ⟨v1, .bytes s.l⟩]
   (pms (.tup [.val (.int .i64 (usedK (keptK (l.map rkOf)):Int)),.val (.int .i64 0)]) [⟨vs,.obj [.ref 3 v0 6 0 0,.ref 1 va 3 0 0,.ref 2 vb 3 0 0]⟩,⟨va,.obj [.ref 3 v0 6 0 0,.val (.int .i64 ((0:Nat):Int)),.val (.int .i64 (c:Int))]⟩,⟨vb,.obj [.ref 3 v0 6 0 0,.val (.int .i64 (c:Int)),.val (.int .i64 (c:Int))]⟩,⟨v0,.obj [.own 4 v1 1 0 s.l.length,.val (.int .i64 (s.k:Int)),.val (.int .i64 s.ar),.val (.int .i64 s.pt),.val (.bool s.dd),.val (.int .i64 s.wr)]⟩,⟨v1,.bytes s.l⟩] []):=by
 (
 have hbd:=look_bound g pa hS
 have hus:=look_used g pa hS
 have hfw:=look_few g pa hS
 have hnw:=now0 s c g pa pb hd hi l e b hS vs va vb v0 v1
 refine spec_entry tbOk Tryz.func74 rfl Tryz.ntmps74 Tryz.results74 ?_
 refine gg (k:= ?_)
 refine cmks (hnw) Tryz.call77 (he:=⟨fun _=>⟨rfl,rfl,trivial,trivial⟩,trivial,fun _=>⟨rfl,rfl,trivial,trivial⟩,trivial⟩) 5 [0,1,2,3,4,0,0,0,0,0,0,0,0,0,0,0,0,0,0,0,0,0,0,0,0,0,0,0,0,0,10,11,12] [0,0,0,0,0,0,0,0,0,0,0,0,0,0,0,0,0,0,0,0,0,0,0,0,0,0,0,0,0,0,1,1,1] [30,31,32] ?_
 refine gg (k:= ?_)
 refine cmks (used_vc (RRel.kept l) (by omega) (by have:=(keptK_sub (l.map rkOf)).length_le;rw[List.length_map] at this;omega) s 0 c l (e:Int) b (keptR l l.length).length 4 4 (l.length+4) va v0 v1 rfl) Tryz.call79 (hrows:=⟨⟨fun _=>⟨(by show 1<6;decide),(by show 1<6;decide),trivial,trivial⟩,rfl⟩,⟨trivial,rfl⟩,⟨fun _=>⟨(by show 1<6;decide),(by show 1<6;decide),trivial,trivial⟩,rfl⟩,⟨⟨(by show 4<6;decide),trivial,trivial,trivial⟩,rfl⟩,⟨⟨(by show 5<6;decide),trivial,trivial,trivial,trivial,trivial,trivial⟩,rfl⟩,⟨trivial,rfl⟩,trivial⟩) (hr2:=⟨fun _=>⟨rfl,rfl,trivial,trivial⟩,trivial,fun _=>⟨rfl,rfl,trivial,trivial⟩,⟨rfl,trivial,trivial,trivial⟩,⟨rfl,trivial,trivial,trivial,trivial,trivial,trivial⟩,trivial,trivial⟩) 6 [12,11,10,1,3,4] [0,0,0,0,0,0] [] ?_
 refine gg (k:= ?_)
 exact⟨_,rfl,rfl,trivial⟩)
theorem used1 {W : Int} {n k : Nat} (s : FlS) (c : Nat) (g : Goes W n k s) (pa : Lies n k 0 c) (pb : Lies n k c c) (hd : s.dd = false) (hi : (s.cnt c).1 = 1) {l : List Rc} {e : Nat} {b : Bool} (hS : s.scan c c = (l, e, b)) (vs va vb v0 v1 : Nat) : Spec Tryz.prog 74 [.ref 0 vs 3 0 0] [⟨vs, .obj [.ref 3 v0 6 0 0, .ref 1 va 3 0 0, .ref 2 vb 3 0 0]⟩, ⟨va, .obj [.ref 3 v0 6 0 0, .val (.int .i64 ((0 : Nat) : Int)), .val (.int .i64 (c : Int))]⟩, ⟨vb, .obj [.ref 3 v0 6 0 0, .val (.int .i64 (c : Int)), .val (.int .i64 (c : Int))]⟩, ⟨v0, .obj [.own 4 v1 1 0 s.l.length, .val (.int .i64 (s.k : Int)), .val (.int .i64 s.ar), .val (.int .i64 s.pt), .val (.bool s.dd), .val (.int .i64 s.wr)]⟩, ⟨v1, .bytes s.l⟩]
   (pms (.tup [.val (.int .i64 (usedK (keptK (l.map rkOf)):Int)),.val (.int .i64 0)]) [⟨vs,.obj [.ref 3 v0 6 0 0,.ref 1 va 3 0 0,.ref 2 vb 3 0 0]⟩,⟨va,.obj [.ref 3 v0 6 0 0,.val (.int .i64 ((0:Nat):Int)),.val (.int .i64 (c:Int))]⟩,⟨vb,.obj [.ref 3 v0 6 0 0,.val (.int .i64 (c:Int)),.val (.int .i64 (c:Int))]⟩,⟨v0,.obj [.own 4 v1 1 0 s.l.length,.val (.int .i64 (s.k:Int)),.val (.int .i64 s.ar),.val (.int .i64 s.pt),.val (.bool s.dd),.val (.int .i64 s.wr)]⟩,⟨v1,.bytes s.l⟩] []):=by
 (
 have hbd:=look_bound g pb hS
 have hus:=look_used g pb hS
 have hfw:=look_few g pb hS
 have hnw:=now1 s c g pa pb hd hi l e b hS vs va vb v0 v1
 refine spec_entry tbOk Tryz.func74 rfl Tryz.ntmps74 Tryz.results74 ?_
 refine gg (k:= ?_)
 refine cmks (hnw) Tryz.call77 (he:=⟨fun _=>⟨rfl,rfl,trivial,trivial⟩,trivial,fun _=>⟨rfl,rfl,trivial,trivial⟩,trivial⟩) 5 [0,1,2,3,4,0,0,0,0,0,0,0,0,0,0,0,0,0,0,0,0,0,0,0,0,0,0,0,0,0,10,11,12] [0,0,0,0,0,0,0,0,0,0,0,0,0,0,0,0,0,0,0,0,0,0,0,0,0,0,0,0,0,0,1,1,1] [30,31,32] ?_
 refine gg (k:= ?_)
 refine cmks (used_vc (RRel.kept l) (by omega) (by have:=(keptK_sub (l.map rkOf)).length_le;rw[List.length_map] at this;omega) s c c l (e:Int) b (keptR l l.length).length 4 4 (l.length+4) vb v0 v1 rfl) Tryz.call79 (hrows:=⟨⟨fun _=>⟨(by show 1<6;decide),(by show 1<6;decide),trivial,trivial⟩,rfl⟩,⟨trivial,rfl⟩,⟨fun _=>⟨(by show 1<6;decide),(by show 1<6;decide),trivial,trivial⟩,rfl⟩,⟨⟨(by show 4<6;decide),trivial,trivial,trivial⟩,rfl⟩,⟨⟨(by show 5<6;decide),trivial,trivial,trivial,trivial,trivial,trivial⟩,rfl⟩,⟨trivial,rfl⟩,trivial⟩) (hr2:=⟨fun _=>⟨rfl,rfl,trivial,trivial⟩,trivial,fun _=>⟨rfl,rfl,trivial,trivial⟩,⟨rfl,trivial,trivial,trivial⟩,⟨rfl,trivial,trivial,trivial,trivial,trivial,trivial⟩,trivial,trivial⟩) 6 [12,11,10,2,3,4] [0,0,0,0,0,0] [] ?_
 refine gg (k:= ?_)
 exact⟨_,rfl,rfl,trivial⟩)
theorem used_map {W : Int} {n k : Nat} (s : FlS) (c : Nat) {M : List RK} (m : LK s c M) (g : Goes W n k s) (pa : Lies n k 0 c) (pb : Lies n k c c) (vs va vb v0 v1 : Nat) : Spec Tryz.prog 74 [.ref 0 vs 3 0 0] [⟨vs, .obj [.ref 3 v0 6 0 0, .ref 1 va 3 0 0, .ref 2 vb 3 0 0]⟩, ⟨va, .obj [.ref 3 v0 6 0 0, .val (.int .i64 ((0 : Nat) : Int)), .val (.int .i64 (c : Int))]⟩, ⟨vb, .obj [.ref 3 v0 6 0 0, .val (.int .i64 (c : Int)), .val (.int .i64 (c : Int))]⟩, ⟨v0, .obj [.own 4 v1 1 0 s.l.length, .val (.int .i64 (s.k : Int)), .val (.int .i64 s.ar), .val (.int .i64 s.pt), .val (.bool s.dd), .val (.int .i64 s.wr)]⟩, ⟨v1, .bytes s.l⟩]
   (pms (.tup [.val (.int .i64 (usedK M:Int)),.val (.int .i64 0)]) [⟨vs,.obj [.ref 3 v0 6 0 0,.ref 1 va 3 0 0,.ref 2 vb 3 0 0]⟩,⟨va,.obj [.ref 3 v0 6 0 0,.val (.int .i64 ((0:Nat):Int)),.val (.int .i64 (c:Int))]⟩,⟨vb,.obj [.ref 3 v0 6 0 0,.val (.int .i64 (c:Int)),.val (.int .i64 (c:Int))]⟩,⟨v0,.obj [.own 4 v1 1 0 s.l.length,.val (.int .i64 (s.k:Int)),.val (.int .i64 s.ar),.val (.int .i64 s.pt),.val (.bool s.dd),.val (.int .i64 s.wr)]⟩,⟨v1,.bytes s.l⟩] []):=by
 obtain⟨i,l,e,b,hi,hci,hS,hkp⟩:=m.kept
 rcases hi with rfl | rfl
 ·simp only[Nat.zero_mul] at hS
  have:=used0 s c g pa pb m.live hci hS vs va vb v0 v1
  rw[hkp] at this
  exact this
 ·simp only[Nat.one_mul] at hS
  have:=used1 s c g pa pb m.live hci hS vs va vb v0 v1
  rw[hkp] at this
  exact this
end Go.Proofs.YtpbpiehcchannaaGreatDoor
namespace Go.Proofs.YtpbpiehcchannaaGreatDoor
open Go.RowKit
set_option linter.unusedVariables false
set_option linter.unusedSimpArgs false
set_option maxRecDepth 100000
set_option maxHeartbeats 1500000
def srtK(keys:List (List UInt8)):List (List UInt8):=keys.mergeSort fun x y=> !ltB y x
theorem srtR_get{keys ps:List (List UInt8)}{rs:List (Nat×Nat)}(hlen:keys.length=rs.length)(hk:∀(i:Nat)(x:Nat×Nat)(k:List UInt8),rs[i]? =some x→keys[i]? =some k→ps[x.1]? =some k∧x.2=k.length)(i:Nat)(x:Nat×Nat)(k:List UInt8)(hx:(srtR keys rs)[i]? =some x)(hy:(srtK keys)[i]? =some k):ps[x.1]? =some k∧x.2=k.length:=by
 have e:srtK keys=((List.finRange rs.length).mergeSort fun i j=> !ltB (keys.getD j []) (keys.getD i [])).map fun i:Fin rs.length=>keys.getD i.val []:=by
  rw[List.map_mergeSort (s:=fun x y=> !ltB y x) (fun a _ b _=>rfl)]
  unfold srtK
  congr 1
  apply List.ext_getElem
  ·simp[hlen]
  ·intro j h1 h2
   simp[List.getD_eq_getElem?_getD,h1]
 rw[e] at hy
 unfold srtR at hx
 rw[List.getElem?_map] at hx hy
 obtain⟨j,hj,rfl⟩:=Option.map_eq_some_iff.1 hx
 obtain⟨j',hj',rfl⟩:=Option.map_eq_some_iff.1 hy
 rw[hj] at hj'
 obtain rfl:=Option.some.inj hj'
 refine hk j.val _ _ ?_ ?_
 ·rw[List.getD_eq_getElem?_getD,List.getElem?_eq_getElem j.isLt];rfl
 ·rw[List.getD_eq_getElem?_getD,List.getElem?_eq_getElem (by omega)];rfl
theorem srtK_len(keys:List (List UInt8)):(srtK keys).length=keys.length:=List.length_mergeSort ..
end Go.Proofs.YtpbpiehcchannaaGreatDoor
namespace Go.Proofs.YtpbpiehcchannaaGreatDoor
open Go.RowKit
set_option linter.unusedVariables false
set_option linter.unusedSimpArgs false
set_option maxRecDepth 100000
set_option maxHeartbeats 1500000
theorem keys_raw {W : Int} {n k : Nat} (s : FlS) (c : Nat) {M : List RK} (m : LK s c M) (g : Goes W n k s) (pa : Lies n k 0 c) (pb : Lies n k c c) (vs va vb v0 v1 : Nat) : ∃ (ps : List (List UInt8)) (rs : List (Nat × Nat)) (L : Nat), L = rs.length ∧ rs.length = (srtK (M.map fun r => r.key)).length ∧
   (∀(i:Nat)(x:Nat×Nat)(q:List UInt8),rs[i]? =some x→(srtK (M.map fun r=>r.key))[i]? =some q→ps[x.1]? =some q∧x.2=q.length)∧
   Spec Tryz.prog 72 [.ref 0 vs 3 0 0] [⟨vs,.obj [.ref 3 v0 6 0 0,.ref 1 va 3 0 0,.ref 2 vb 3 0 0]⟩,⟨va,.obj [.ref 3 v0 6 0 0,.val (.int .i64 ((0:Nat):Int)),.val (.int .i64 (c:Int))]⟩,⟨vb,.obj [.ref 3 v0 6 0 0,.val (.int .i64 (c:Int)),.val (.int .i64 (c:Int))]⟩,⟨v0,.obj [.own 4 v1 1 0 s.l.length,.val (.int .i64 (s.k:Int)),.val (.int .i64 s.ar),.val (.int .i64 s.pt),.val (.bool s.dd),.val (.int .i64 s.wr)]⟩,⟨v1,.bytes s.l⟩]
   (pms (.tup [.own 33 (L+1) 1 0 L,.val (.int .i64 0)]) [⟨vs,.obj [.ref 3 v0 6 0 0,.ref 1 va 3 0 0,.ref 2 vb 3 0 0]⟩,⟨va,.obj [.ref 3 v0 6 0 0,.val (.int .i64 ((0:Nat):Int)),.val (.int .i64 (c:Int))]⟩,⟨vb,.obj [.ref 3 v0 6 0 0,.val (.int .i64 (c:Int)),.val (.int .i64 (c:Int))]⟩,⟨v0,.obj [.own 4 v1 1 0 s.l.length,.val (.int .i64 (s.k:Int)),.val (.int .i64 s.ar),.val (.int .i64 s.pt),.val (.bool s.dd),.val (.int .i64 s.wr)]⟩,⟨v1,.bytes s.l⟩] [(33,⟨L+1,.row 1 (plA 21 4) (0,0) rs⟩),(21,⟨4,.pool ps⟩)]):=by
 obtain⟨i,l,e,b,hi,hci,hS,hkp⟩:=m.kept
 have hkeys:keysK (l.map rkOf)=M.map fun r=>r.key:=by unfold keysK;rw[hkp]
 refine⟨poolOf l,srtR (keysK (l.map rkOf)) (kOf l),(kOf l).length,(srtR_len _ _).symm,?_,?_,?_⟩
 ·rw[srtR_len,srtK_len,←hkeys,keysK_len]
 ·intro j x q hx hq
  rw[←hkeys] at hq
  exact srtR_get (keysK_len l) (kOf_key l) j x q hx hq
 ·rcases hi with rfl | rfl
  ·simp only[Nat.zero_mul] at hS
   exact keys0 s c g pa pb m.live hci hS vs va vb v0 v1
  ·simp only[Nat.one_mul] at hS
   exact keys1 s c g pa pb m.live hci hS vs va vb v0 v1
theorem keys_map {W : Int} {n k : Nat} (s : FlS) (c : Nat) {M : List RK} (m : LK s c M) (g : Goes W n k s) (pa : Lies n k 0 c) (pb : Lies n k c c) (vs va vb v0 v1 : Nat) : Spec Tryz.prog 72 [.ref 0 vs 3 0 0] [⟨vs, .obj [.ref 3 v0 6 0 0, .ref 1 va 3 0 0, .ref 2 vb 3 0 0]⟩, ⟨va, .obj [.ref 3 v0 6 0 0, .val (.int .i64 ((0 : Nat) : Int)), .val (.int .i64 (c : Int))]⟩, ⟨vb, .obj [.ref 3 v0 6 0 0, .val (.int .i64 (c : Int)), .val (.int .i64 (c : Int))]⟩, ⟨v0, .obj [.own 4 v1 1 0 s.l.length, .val (.int .i64 (s.k : Int)), .val (.int .i64 s.ar), .val (.int .i64 s.pt), .val (.bool s.dd), .val (.int .i64 s.wr)]⟩, ⟨v1, .bytes s.l⟩]
   (pms (.tup [.sl 0 1 (fun k:List UInt8=>[AV.bs 0 k]) [] (srtK (M.map fun r=>r.key)),.val (.int .i64 0)]) [⟨vs,.obj [.ref 3 v0 6 0 0,.ref 1 va 3 0 0,.ref 2 vb 3 0 0]⟩,⟨va,.obj [.ref 3 v0 6 0 0,.val (.int .i64 ((0:Nat):Int)),.val (.int .i64 (c:Int))]⟩,⟨vb,.obj [.ref 3 v0 6 0 0,.val (.int .i64 (c:Int)),.val (.int .i64 (c:Int))]⟩,⟨v0,.obj [.own 4 v1 1 0 s.l.length,.val (.int .i64 (s.k:Int)),.val (.int .i64 s.ar),.val (.int .i64 s.pt),.val (.bool s.dd),.val (.int .i64 s.wr)]⟩,⟨v1,.bytes s.l⟩] []):=by
 obtain⟨ps,rs,L,rfl,hl,hk,h⟩:=keys_raw s c m g pa pb vs va vb v0 v1
 refine spec_frz h (by simp[geM]) (AF.tup (AFL.cons (AF.own_sl rfl rfl hl.symm fun i x y hx hy=> ?_) (AFL.cons AF.same AFL.nil))) ⟨rfl,BF.same,rfl,BF.same,rfl,BF.same,rfl,BF.same,rfl,BF.same,trivial⟩
 obtain⟨h1,h2⟩:=hk i x y hx hy
 exact AFL.cons (AF.pl rfl h1 h2) AFL.nil
end Go.Proofs.YtpbpiehcchannaaGreatDoor
namespace Go.Proofs.YtpbpiehcchannaaGreatDoor
open Go.RowKit
set_option linter.unusedVariables false
set_option linter.unusedSimpArgs false
set_option maxRecDepth 100000
set_option maxHeartbeats 1500000
theorem del0 {W : Int} {n k : Nat} (s : FlS) (c : Nat) (g : Goes W n k s) (hW : W ≤ 1000000000000000) (pa : Lies n k 0 c) (pb : Lies n k c c) (hd : s.dd = false) (hi : (s.cnt c).1 = 0) {l : List Rc} {e : Nat} {b : Bool} (hS : s.scan 0 c = (l, e, b)) (z : Nat) (key : List UInt8) (vs va vb v0 v1 : Nat) : Spec Tryz.prog 25 [.ref 0 vs 3 0 0, .bs z key] [⟨vs, .obj [.ref 3 v0 6 0 0, .ref 1 va 3 0 0, .ref 2 vb 3 0 0]⟩, ⟨va, .obj [.ref 3 v0 6 0 0, .val (.int .i64 ((0 : Nat) : Int)), .val (.int .i64 (c : Int))]⟩, ⟨vb, .obj [.ref 3 v0 6 0 0, .val (.int .i64 (c : Int)), .val (.int .i64 (c : Int))]⟩, ⟨v0, .obj [.own 4 v1 1 0 s.l.length, .val (.int .i64 (s.k : Int)), .val (.int .i64 s.ar), .val (.int .i64 s.pt), .val (.bool s.dd), .val (.int .i64 s.wr)]⟩, ⟨v1, .bytes s.l⟩]
   (pms (.val (.int .i64 (s.del c key).1)) [⟨vs,.obj [.ref 3 v0 6 0 0,.ref 1 va 3 0 0,.ref 2 vb 3 0 0]⟩,⟨va,.obj [.ref 3 v0 6 0 0,.val (.int .i64 ((0:Nat):Int)),.val (.int .i64 (c:Int))]⟩,⟨vb,.obj [.ref 3 v0 6 0 0,.val (.int .i64 (c:Int)),.val (.int .i64 (c:Int))]⟩,⟨v0,.obj [.own 4 v1 1 0 (s.del c key).2.l.length,.val (.int .i64 ((s.del c key).2.k:Int)),.val (.int .i64 (s.del c key).2.ar),.val (.int .i64 (s.del c key).2.pt),.val (.bool (s.del c key).2.dd),.val (.int .i64 (s.del c key).2.wr)]⟩,⟨v1,.bytes (s.del c key).2.l⟩] []):=by
 (
 have hbd:=look_bound g pa hS
 have hfw:=look_few g pa hS
 have hnw:=now0 s c g pa pb hd hi l e b hS vs va vb v0 v1
 have hrk:s.recK c=l.map rkOf:=by unfold FlS.recK FlS.recs;rw[hi,show 0*c=0 by omega,hS]
 have hdel:s.del c key=if lastK (l.map rkOf) key<0 then(3,s) else s.kill 0 c (lastK (l.map rkOf) key):=by
  unfold FlS.del
  rw[hd,if_neg (by simp),hrk,hi,show 0*c=0 by omega]
 rw[hdel]
 have hlt:=lastI_lt (l.map rkOf) key (l.map rkOf).length
 have hll:(l.map rkOf).length=l.length:=List.length_map ..
 refine spec_entry tbOk Tryz.func25 rfl Tryz.ntmps25 Tryz.results25 ?_
 refine gg (k:= ?_)
 refine cmks (hnw) Tryz.call77 (he:=⟨fun _=>⟨rfl,rfl,trivial,trivial⟩,trivial,fun _=>⟨rfl,rfl,trivial,trivial⟩,trivial⟩) 5 [0,1,2,3,4,0,0,0,0,0,0,0,0,0,0,0,0,0,0,0,0,0,0,0,0,0,0,0,0,0,20,21,22] [0,0,0,0,0,0,0,0,0,0,0,0,0,0,0,0,0,0,0,0,0,0,0,0,0,0,0,0,0,0,1,1,1] [30,31,32] ?_
 refine gg (k:= ?_)
 refine cmks (last_bs (RRel.of l) hbd z key l.length (l.length+4) 4 (rrOf_len l 0).symm) Tryz.call82 (hrows:=⟨⟨fun _=>⟨Nat.lt_succ_self 1,Nat.lt_succ_self 1,trivial,trivial⟩,rfl⟩,⟨trivial,rfl⟩,trivial⟩) (hr2:=⟨fun _=>⟨rfl,rfl,trivial,trivial⟩,trivial,trivial⟩) 2 [20,21] [0,0] [] ?_
 change -1≤lastK (l.map rkOf) key∧lastK (l.map rkOf) key<_ at hlt
 generalize lastK (l.map rkOf) key=L at hlt⊢
 by_cases hL:L<0
 ·rw[if_pos hL]
  refine gg (k:= ?_)
  exact⟨_,rfl,rfl,trivial⟩
 ·rw[if_neg hL]
  refine gg (k:= ?_)
  refine cmks (kill_vc s 0 c g (by omega) pa L (by constructor<;>omega) va v0 v1) Tryz.call83 3 [1,3,4] [0,0,0] [] ?_
  refine gg (k:= ?_)
  exact⟨_,rfl,rfl,trivial⟩)
theorem del1 {W : Int} {n k : Nat} (s : FlS) (c : Nat) (g : Goes W n k s) (hW : W ≤ 1000000000000000) (pa : Lies n k 0 c) (pb : Lies n k c c) (hd : s.dd = false) (hi : (s.cnt c).1 = 1) {l : List Rc} {e : Nat} {b : Bool} (hS : s.scan c c = (l, e, b)) (z : Nat) (key : List UInt8) (vs va vb v0 v1 : Nat) : Spec Tryz.prog 25 [.ref 0 vs 3 0 0, .bs z key] [⟨vs, .obj [.ref 3 v0 6 0 0, .ref 1 va 3 0 0, .ref 2 vb 3 0 0]⟩, ⟨va, .obj [.ref 3 v0 6 0 0, .val (.int .i64 ((0 : Nat) : Int)), .val (.int .i64 (c : Int))]⟩, ⟨vb, .obj [.ref 3 v0 6 0 0, .val (.int .i64 (c : Int)), .val (.int .i64 (c : Int))]⟩, ⟨v0, .obj [.own 4 v1 1 0 s.l.length, .val (.int .i64 (s.k : Int)), .val (.int .i64 s.ar), .val (.int .i64 s.pt), .val (.bool s.dd), .val (.int .i64 s.wr)]⟩, ⟨v1, .bytes s.l⟩]
   (pms (.val (.int .i64 (s.del c key).1)) [⟨vs,.obj [.ref 3 v0 6 0 0,.ref 1 va 3 0 0,.ref 2 vb 3 0 0]⟩,⟨va,.obj [.ref 3 v0 6 0 0,.val (.int .i64 ((0:Nat):Int)),.val (.int .i64 (c:Int))]⟩,⟨vb,.obj [.ref 3 v0 6 0 0,.val (.int .i64 (c:Int)),.val (.int .i64 (c:Int))]⟩,⟨v0,.obj [.own 4 v1 1 0 (s.del c key).2.l.length,.val (.int .i64 ((s.del c key).2.k:Int)),.val (.int .i64 (s.del c key).2.ar),.val (.int .i64 (s.del c key).2.pt),.val (.bool (s.del c key).2.dd),.val (.int .i64 (s.del c key).2.wr)]⟩,⟨v1,.bytes (s.del c key).2.l⟩] []):=by
 (
 have hbd:=look_bound g pb hS
 have hfw:=look_few g pb hS
 have hnw:=now1 s c g pa pb hd hi l e b hS vs va vb v0 v1
 have hrk:s.recK c=l.map rkOf:=by unfold FlS.recK FlS.recs;rw[hi,show 1*c=c by omega,hS]
 have hdel:s.del c key=if lastK (l.map rkOf) key<0 then(3,s) else s.kill c c (lastK (l.map rkOf) key):=by
  unfold FlS.del
  rw[hd,if_neg (by simp),hrk,hi,show 1*c=c by omega]
 rw[hdel]
 have hlt:=lastI_lt (l.map rkOf) key (l.map rkOf).length
 have hll:(l.map rkOf).length=l.length:=List.length_map ..
 refine spec_entry tbOk Tryz.func25 rfl Tryz.ntmps25 Tryz.results25 ?_
 refine gg (k:= ?_)
 refine cmks (hnw) Tryz.call77 (he:=⟨fun _=>⟨rfl,rfl,trivial,trivial⟩,trivial,fun _=>⟨rfl,rfl,trivial,trivial⟩,trivial⟩) 5 [0,1,2,3,4,0,0,0,0,0,0,0,0,0,0,0,0,0,0,0,0,0,0,0,0,0,0,0,0,0,20,21,22] [0,0,0,0,0,0,0,0,0,0,0,0,0,0,0,0,0,0,0,0,0,0,0,0,0,0,0,0,0,0,1,1,1] [30,31,32] ?_
 refine gg (k:= ?_)
 refine cmks (last_bs (RRel.of l) hbd z key l.length (l.length+4) 4 (rrOf_len l 0).symm) Tryz.call82 (hrows:=⟨⟨fun _=>⟨Nat.lt_succ_self 1,Nat.lt_succ_self 1,trivial,trivial⟩,rfl⟩,⟨trivial,rfl⟩,trivial⟩) (hr2:=⟨fun _=>⟨rfl,rfl,trivial,trivial⟩,trivial,trivial⟩) 2 [20,21] [0,0] [] ?_
 change -1≤lastK (l.map rkOf) key∧lastK (l.map rkOf) key<_ at hlt
 generalize lastK (l.map rkOf) key=L at hlt⊢
 by_cases hL:L<0
 ·rw[if_pos hL]
  refine gg (k:= ?_)
  exact⟨_,rfl,rfl,trivial⟩
 ·rw[if_neg hL]
  refine gg (k:= ?_)
  refine cmks (kill_vc s c c g (by omega) pb L (by constructor<;>omega) vb v0 v1) Tryz.call83 3 [2,3,4] [0,0,0] [] ?_
  refine gg (k:= ?_)
  exact⟨_,rfl,rfl,trivial⟩)
theorem del_dead (s : FlS) (c : Nat) (hd : s.dd = true) (z : Nat) (key : List UInt8) (vs va vb v0 v1 : Nat) : Spec Tryz.prog 25 [.ref 0 vs 3 0 0, .bs z key] [⟨vs, .obj [.ref 3 v0 6 0 0, .ref 1 va 3 0 0, .ref 2 vb 3 0 0]⟩, ⟨va, .obj [.ref 3 v0 6 0 0, .val (.int .i64 ((0 : Nat) : Int)), .val (.int .i64 (c : Int))]⟩, ⟨vb, .obj [.ref 3 v0 6 0 0, .val (.int .i64 (c : Int)), .val (.int .i64 (c : Int))]⟩, ⟨v0, .obj [.own 4 v1 1 0 s.l.length, .val (.int .i64 (s.k : Int)), .val (.int .i64 s.ar), .val (.int .i64 s.pt), .val (.bool s.dd), .val (.int .i64 s.wr)]⟩, ⟨v1, .bytes s.l⟩]
   (pms (.val (.int .i64 (s.del c key).1)) [⟨vs,.obj [.ref 3 v0 6 0 0,.ref 1 va 3 0 0,.ref 2 vb 3 0 0]⟩,⟨va,.obj [.ref 3 v0 6 0 0,.val (.int .i64 ((0:Nat):Int)),.val (.int .i64 (c:Int))]⟩,⟨vb,.obj [.ref 3 v0 6 0 0,.val (.int .i64 (c:Int)),.val (.int .i64 (c:Int))]⟩,⟨v0,.obj [.own 4 v1 1 0 (s.del c key).2.l.length,.val (.int .i64 ((s.del c key).2.k:Int)),.val (.int .i64 (s.del c key).2.ar),.val (.int .i64 (s.del c key).2.pt),.val (.bool (s.del c key).2.dd),.val (.int .i64 (s.del c key).2.wr)]⟩,⟨v1,.bytes (s.del c key).2.l⟩] []):=by
 rw[show s.del c key=(6,s) by unfold FlS.del;rw[if_pos hd]]
 refine spec_entry tbOk Tryz.func25 rfl Tryz.ntmps25 Tryz.results25 ?_
 refine gg (k:= ?_)
 refine cmks (now_dead s c hd vs va vb v0 v1) Tryz.call77 5 [0,1,2,3,4] [0,0,0,0,0] [] ?_
 refine gg (k:= ?_)
 exact⟨_,rfl,rfl,trivial⟩
theorem dels_vc {W : Int} {n k : Nat} (s : FlS) (c : Nat) (g : Goes W n k s) (hW : W ≤ 1000000000000000) (pa : Lies n k 0 c) (pb : Lies n k c c) (z : Nat) (key : List UInt8) (vs va vb v0 v1 : Nat) : Spec Tryz.prog 25 [.ref 0 vs 3 0 0, .bs z key] [⟨vs, .obj [.ref 3 v0 6 0 0, .ref 1 va 3 0 0, .ref 2 vb 3 0 0]⟩, ⟨va, .obj [.ref 3 v0 6 0 0, .val (.int .i64 ((0 : Nat) : Int)), .val (.int .i64 (c : Int))]⟩, ⟨vb, .obj [.ref 3 v0 6 0 0, .val (.int .i64 (c : Int)), .val (.int .i64 (c : Int))]⟩, ⟨v0, .obj [.own 4 v1 1 0 s.l.length, .val (.int .i64 (s.k : Int)), .val (.int .i64 s.ar), .val (.int .i64 s.pt), .val (.bool s.dd), .val (.int .i64 s.wr)]⟩, ⟨v1, .bytes s.l⟩]
   (pms (.val (.int .i64 (s.del c key).1)) [⟨vs,.obj [.ref 3 v0 6 0 0,.ref 1 va 3 0 0,.ref 2 vb 3 0 0]⟩,⟨va,.obj [.ref 3 v0 6 0 0,.val (.int .i64 ((0:Nat):Int)),.val (.int .i64 (c:Int))]⟩,⟨vb,.obj [.ref 3 v0 6 0 0,.val (.int .i64 (c:Int)),.val (.int .i64 (c:Int))]⟩,⟨v0,.obj [.own 4 v1 1 0 (s.del c key).2.l.length,.val (.int .i64 ((s.del c key).2.k:Int)),.val (.int .i64 (s.del c key).2.ar),.val (.int .i64 (s.del c key).2.pt),.val (.bool (s.del c key).2.dd),.val (.int .i64 (s.del c key).2.wr)]⟩,⟨v1,.bytes (s.del c key).2.l⟩] []):=by
 rcases Bool.eq_false_or_eq_true s.dd with hd | hd
 ·exact del_dead s c hd z key vs va vb v0 v1
 ·rcases cnt01 s c with hi | hi
  ·exact del0 s c g hW pa pb hd hi rfl z key vs va vb v0 v1
  ·exact del1 s c g hW pa pb hd hi rfl z key vs va vb v0 v1
end Go.Proofs.YtpbpiehcchannaaGreatDoor
