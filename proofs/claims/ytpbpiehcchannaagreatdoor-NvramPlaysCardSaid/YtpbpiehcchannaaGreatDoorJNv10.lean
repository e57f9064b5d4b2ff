/- Walks of nvram: Set. Conditions: none. -/
import Derived.Test.YtpbpiehcchannaaGreatDoorJNv9
namespace Go.Proofs.YtpbpiehcchannaaGreatDoor
open Go.RowKit
set_option linter.unusedVariables false
set_option linter.unusedSimpArgs false
set_option maxRecDepth 100000
set_option maxHeartbeats 1500000
theorem N3(x:List UInt8):∀(n a:Nat),x.length - a=n→bw ((bj x a).1.map an)≤n:=by
 intro n
 induction n using Nat.strongRecOn with
 | _ n ih=>
  intro a ha
  by_cases h:a<x.length∧x.getD a 0≠255
  ·by_cases hr:dU (x.drop a)
   ·rw[pj h hr]
    have hN:=pn (x.drop a)
    have hx:=hr.2.2.2.2.2.1
    rw[List.length_drop] at hx
    have h2:=ih (x.length - (a+bU (x.drop a))) (by omega) (a+bU (x.drop a)) rfl
    have hk:(bR (x.drop a)).length+(b5 (x.drop a)).length+12≤bU (x.drop a):=by
     unfold bR b5
     rw[List.length_drop,List.length_drop,List.length_take,List.length_take,List.length_drop]
     have e1:bU (x.drop a)=12+au (x.drop a)+cA (x.drop a):=rfl
     omega
    simp only[List.map_cons,bw,an]
    omega
   ·rw[po h hr]
    exact Nat.zero_le _
  ·rw[nT h]
   exact Nat.zero_le _
theorem N4{a b:List RK}(h:a.Sublist b):bw a≤bw b:=by
 induction h with
 | slnil=>exact Nat.le_refl _
 | cons x _ ih=>simp only[bw];omega
 | cons_cons x _ ih=>simp only[bw];omega
theorem Ge(l:List RK):∀n:Nat,n≤l.length→((dI l n).map fun j=>l.getD j bl).Sublist (l.take n)
 | 0,_=>by simp[dI]
 | n+1,h=>by
  have ih:=Ge l n (by omega)
  rw[re,List.map_append,List.take_succ_eq_append_getElem (by omega)]
  refine List.Sublist.append ih ?_
  split
  ·rw[List.map_cons,List.map_nil,List.getD_eq_getElem?_getD,List.getElem?_eq_getElem (by omega)]
   exact List.Sublist.refl _
  ·exact List.nil_sublist _
theorem dR(l:List RK):(bm l).Sublist l:=by
 have:=Ge l l.length (Nat.le_refl _)
 rw[List.take_length] at this
 exact this
theorem ct.kept(l:List Rc):ct (cB l l.length) (cV l) (bm (l.map an)):=by
 have h:=ct.of l
 refine⟨by simp[cB,bm],fun i x y hx hy=> ?_⟩
 unfold cB at hx
 unfold bm at hy
 rw[List.length_map] at hy
 rw[List.getElem?_map] at hx hy
 obtain⟨j,hj,rfl⟩:=Option.map_eq_some_iff.1 hx
 obtain⟨j',pF,rfl⟩:=Option.map_eq_some_iff.1 hy
 rw[hj] at pF
 obtain rfl:=Option.some.inj pF
 have iN:j<l.length:=by
  have:=List.mem_of_getElem? hj
  unfold dI at this
  exact List.mem_range.1 (List.mem_filter.1 this).1
 refine h.el j _ _ ?_ ?_
 ·rw[List.getD_eq_getElem?_getD,List.getElem?_eq_getElem (by rw[cP];exact iN)];rfl
 ·rw[List.getD_eq_getElem?_getD,List.getElem?_eq_getElem (by rw[List.length_map];exact iN)];rfl
theorem td{W:Int}{n k:Nat}{s:J}{a c:Nat}(g:av W n k s)(p:aC n k a c){l:List Rc}{e:Nat}{b:Bool}(hS:s.scan a c=(l,e,b)):bw (bm (l.map an))≤4194304:=by
 have eA:=g.len
 have DI:(s.bE a c).length≤4194304:=by unfold J.bE;rw[List.length_take,List.length_drop,g.l];omega
 have h1:=N3 (s.bE a c) _ 16 rfl
 rw[show bj (s.bE a c) 16=(l,e,b) from hS] at h1
 have h2:=N4 (dR (l.map an))
 simp only at h1
 omega
end Go.Proofs.YtpbpiehcchannaaGreatDoor
