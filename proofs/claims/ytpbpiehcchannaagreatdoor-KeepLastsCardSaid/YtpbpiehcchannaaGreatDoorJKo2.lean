/- Next, from name to name; lintellaw21: names. What does answers; twin. Conditions: the premises of each law. -/
import Derived.Test.YtpbpiehcchannaaGreatDoorJKn
namespace Go.Proofs.YtpbpiehcchannaaGreatDoor
set_option linter.unusedVariables false
set_option linter.unusedSimpArgs false
set_option maxRecDepth 100000
set_option maxHeartbeats 1500000
open Go.RowKit
def kV(v:aU):List UInt8:=aO v.nm v.g
theorem tn{v:aU}(h:gq v):cC (kV v)=true:=by
 unfold cC kV aO
 rw[List.drop_left' h.ok.g,lQ,h.r,List.length_append,h.ok.g,Bool.and_true]
 exact decide_eq_true (Nat.le_add_right _ _)
theorem Rb{v:aU}(h:gq v):aS [] (kV v)=true:=by
 have:=(DA h).1
 unfold kV
 cases hk:aO v.nm v.g with
 | nil=>rw[hk] at this;simp at this
 | cons a l=>rfl
theorem Rf{ks:List (List UInt8)}(h:ks.Pairwise fun x y=>aS x y=true)(hv:∀k∈ks,cC k=true)(i:Nat)(hi:i<ks.length):eR ks ks[i]=ks[i+1]?:=by
 obtain⟨b,hb⟩:∃b,b=ks[i]:=⟨_,rfl⟩
 rw[←hb]
 have h1:(ks.take (i+1)).find? (fun k=>aS b k&&cC k)=none:=by
  rw[List.find?_eq_none]
  intro x hx
  obtain⟨j,hj,rfl⟩:=List.getElem_of_mem hx
  rw[List.length_take] at hj
  rw[List.getElem_take]
  have hle:aS b ks[j]=false:=by
   rw[hb]
   rcases Nat.lt_or_ge j i with q | q
   ·exact s7 (List.pairwise_iff_getElem.1 h j i (by omega) hi q)
   ·obtain rfl:j=i:=by omega
    exact lR _
  rw[hle];simp
 have h2:eR ks b=(ks.drop (i+1)).find? (fun k=>aS b k&&cC k):=by
  unfold eR
  have hs:ks=ks.take (i+1)++ks.drop (i+1):=(List.take_append_drop _ _).symm
  have:=congrArg (List.find? (fun k=>aS b k&&cC k)) hs
  rw[List.find?_append,h1] at this
  exact this
 rw[h2]
 by_cases hl:i+1<ks.length
 ·rw[List.drop_eq_getElem_cons hl,List.find?_cons,hv _ (List.getElem_mem hl),hb,List.pairwise_iff_getElem.1 h i (i+1) hi hl (by omega),List.getElem?_eq_getElem hl]
  rfl
 ·rw[List.drop_of_length_le (by omega),List.getElem?_eq_none (by omega)]
  rfl
theorem Rg{ks:List (List UInt8)}(hv:∀k∈ks,cC k=true∧aS [] k=true):eR ks []=ks[0]?:=by
 unfold eR
 cases ks with
 | nil=>rfl
 | cons k ks=>
  have:=hv k (List.mem_cons_self ..)
  rw[List.find?_cons,this.1,this.2]
  rfl
def rq(V:List aU):Nat→ByteArray
 | 0=>ByteArray.empty
 | i+1=>(V.getD i aK).nm
def ru(V:List aU):Nat→List UInt8
 | 0=>[]
 | i+1=>(V.getD i aK).g
def pQ(V:List aU)(i:Nat):AV:=match V[i]? with
 | some v=> .aD [.val (.string v.nm),.agg (bC 16 v.g),.val (.int .i64 0)]
 | none=> .aD [.val (.string ByteArray.empty),.agg (bC 16 []),.val (.int .i64 3)]
theorem Jm{ks:List (List UInt8)}{beh:List UInt8}{V:List aU}{i:Nat}(hV:∀v∈V,gq v)(h:eR ks beh=(V.map kV)[i]?):eJ ks beh=pQ V i:=by
 unfold eJ pQ
 rw[h,List.getElem?_map]
 cases hv:V[i]? with
 | none=>rfl
 | some v=>
  have:=hV v (List.mem_of_getElem? hv)
  simp only[Option.map_some]
  unfold kV aO
  rw[List.drop_left' this.ok.g,List.take_left' this.ok.g,lQ]
theorem Jn{P:Nat→Prop}(V:List aU)(i:Nat):cQ P (pQ V i):=by
 unfold pQ
 split<;>(repeat' apply And.intro)<;>exact trivial
theorem aZ.refl{mk:List (Nat×J)}(xs:List AV):aZ mk xs xs:=fun E E' H w vs _ _ hf h=>fV hf.ext xs vs h
def fC(x:AV)(u:aU)(n:Int)(is:Bool)(e:Int):List AV:=aV x u++[.val (.int .i64 n),.val (.bool is),.val (.int .i64 e)]
theorem Rh(m:List UInt8)(hl:m.length≤140737488355328)(n:Nat)(hn:n=m.length)(v:Nat):Spec Tryz.prog 96 [.own 0 v 1 0 n] [⟨v,.bytes m⟩] (ak (.bs 0 m) [⟨v,.bytes m⟩] []):=by
 subst hn
 have h:=kC (lU 0 ((m.drop 0).take m.length) (by rw[whole];exact hl)) trivial ⟨trivial,trivial⟩ (rows:=[⟨v,.bytes m⟩]) (args:=[.own 0 v 1 0 m.length]) (eA (ml rfl (by omega)) iq)
 rw[whole] at h
 exact ix h (by simp[eM,uP]) (AF.own rfl rfl) ⟨rfl,BF.same,trivial⟩
theorem Ri:Spec Tryz.prog 96 [.val (.slice none 0 0)] [] (ak (.bs 0 []) [] []):=
 ix (X:= .own 3 2 1 0 0) (rows:=[]) (rows':=[]) (mk:=[(3,⟨2,.bytes []⟩)]) (kC (lU 0 [] (by decide)) trivial ⟨trivial,trivial⟩ (rows:=[]) (args:=[.val (.slice none 0 0)]) (eA xQ iq)) (by simp[eM]) (AF.own rfl rfl) trivial
end Go.Proofs.YtpbpiehcchannaaGreatDoor
