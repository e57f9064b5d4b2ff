/- Next, from name to name; lintellaw21: names. What does answers; twin. Conditions: the premises of each law. -/
import Derived.Test.YtpbpiehcchannaaGreatDoorJKn
namespace Go.Proofs.YtpbpiehcchannaaGreatDoor
open Go.RowKit
set_option linter.unusedVariables false
set_option linter.unusedSimpArgs false
set_option maxRecDepth 100000
set_option maxHeartbeats 1500000
def kV(v:VarV):List UInt8:=keyV v.nm v.g
theorem kV_vk{v:VarV}(h:VOk v):isVK (kV v)=true:=by
 unfold isVK kV keyV
 rw[List.drop_left' h.ok.g,strOf_toList,h.r,List.length_append,h.ok.g,Bool.and_true]
 exact decide_eq_true (Nat.le_add_right _ _)
theorem kV_cons{v:VarV}(h:VOk v):ltB [] (kV v)=true:=by
 have:=(keyV_len h).1
 unfold kV
 cases hk:keyV v.nm v.g with
 | nil=>rw[hk] at this;simp at this
 | cons a l=>rfl
theorem srt_strict{keys:List (List UInt8)}(h:keys.Nodup):(srtK keys).Pairwise fun x y=>ltB x y=true:=by
 have htr:∀(a b c:List UInt8),(!ltB b a)=true→(!ltB c b)=true→(!ltB c a)=true:=by
  intro a b c h1 h2
  simp only[Bool.not_eq_true'] at h1 h2⊢
  cases q:ltB c a with
  | false=>rfl
  | true=>
   cases q1:ltB a b with
   | true=>have:=ltB_trans q q1;rw[this] at h2;cases h2
   | false=>
    have:=ltB_tri a b q1 h1
    subst this
    rw[q] at h2;cases h2
 have htot:∀(a b:List UInt8),((!ltB b a)||(!ltB a b))=true:=by
  intro a b
  cases q:ltB b a with
  | false=>rfl
  | true=>rw[ltB_asym q];rfl
 have s1:=List.pairwise_mergeSort htr htot keys
 have hn:(srtK keys).Nodup:=(List.mergeSort_perm keys _).nodup_iff.2 h
 rw[List.nodup_iff_pairwise_ne] at hn
 refine(s1.and hn).imp fun{a b} q=> ?_
 obtain⟨q1,q2⟩:=q
 simp only[Bool.not_eq_true'] at q1
 cases q3:ltB a b with
 | true=>rfl
 | false=>exact absurd (ltB_tri a b q3 q1) q2
structure VS(M:List RK)(V:List VarV):Prop where
 ks:srtK (M.map fun r=>r.key)=V.map kV
 ok:∀v∈V,VOk v∧rcdV v∈M
 st:(V.map kV).Pairwise fun x y=>ltB x y=true
theorem VS.of{M:List RK}(hn:(M.map fun r:RK=>r.key).Nodup)(h:∀r∈M,∃v,VOk v∧r=rcdV v):∃V,VS M V:=by
 have hmem:∀k∈srtK (M.map fun r=>r.key),∃v,VOk v∧rcdV v∈M∧kV v=k:=by
  intro k hk
  have hk2:k∈M.map fun r=>r.key:=(List.mergeSort_perm _ _).mem_iff.1 hk
  obtain⟨r,hr,rfl⟩:=List.mem_map.1 hk2
  obtain⟨v,hv,rfl⟩:=h r hr
  exact⟨v,hv,hr,rfl⟩
 have hV:∀ks:List (List UInt8),(∀k∈ks,∃v,VOk v∧rcdV v∈M∧kV v=k)→∃V:List VarV,ks=V.map kV∧∀v∈V,VOk v∧rcdV v∈M:=by
  intro ks
  induction ks with
  | nil=>exact fun _=>⟨[],rfl,by simp⟩
  | cons k ks ih=>
   intro hks
   obtain⟨v,h1,h2,h3⟩:=hks k (List.mem_cons_self ..)
   obtain⟨V,h4,h5⟩:=ih fun x hx=>hks x (List.mem_cons_of_mem _ hx)
   refine⟨v::V,by rw[List.map_cons,h3,h4],fun u hu=> ?_⟩
   rcases List.mem_cons.1 hu with rfl | hu
   ·exact⟨h1,h2⟩
   ·exact h5 u hu
 obtain⟨V,h1,h2⟩:=hV _ hmem
 exact⟨V,h1,h2,by rw[←h1];exact srt_strict hn⟩
theorem find_next{ks:List (List UInt8)}(h:ks.Pairwise fun x y=>ltB x y=true)(hv:∀k∈ks,isVK k=true)(i:Nat)(hi:i<ks.length):nextK ks ks[i]=ks[i+1]?:=by
 obtain⟨b,hb⟩:∃b,b=ks[i]:=⟨_,rfl⟩
 rw[←hb]
 have h1:(ks.take (i+1)).find? (fun k=>ltB b k&&isVK k)=none:=by
  rw[List.find?_eq_none]
  intro x hx
  obtain⟨j,hj,rfl⟩:=List.getElem_of_mem hx
  rw[List.length_take] at hj
  rw[List.getElem_take]
  have hle:ltB b ks[j]=false:=by
   rw[hb]
   rcases Nat.lt_or_ge j i with q | q
   ·exact ltB_asym (List.pairwise_iff_getElem.1 h j i (by omega) hi q)
   ·obtain rfl:j=i:=by omega
    exact ltB_irr _
  rw[hle];simp
 have h2:nextK ks b=(ks.drop (i+1)).find? (fun k=>ltB b k&&isVK k):=by
  unfold nextK
  have hs:ks=ks.take (i+1)++ks.drop (i+1):=(List.take_append_drop _ _).symm
  have:=congrArg (List.find? (fun k=>ltB b k&&isVK k)) hs
  rw[List.find?_append,h1] at this
  exact this
 rw[h2]
 by_cases hl:i+1<ks.length
 ·rw[List.drop_eq_getElem_cons hl,List.find?_cons,hv _ (List.getElem_mem hl),hb,List.pairwise_iff_getElem.1 h i (i+1) hi hl (by omega),List.getElem?_eq_getElem hl]
  rfl
 ·rw[List.drop_of_length_le (by omega),List.getElem?_eq_none (by omega)]
  rfl
theorem find_first{ks:List (List UInt8)}(hv:∀k∈ks,isVK k=true∧ltB [] k=true):nextK ks []=ks[0]?:=by
 unfold nextK
 cases ks with
 | nil=>rfl
 | cons k ks=>
  have:=hv k (List.mem_cons_self ..)
  rw[List.find?_cons,this.1,this.2]
  rfl
def nmAt(V:List VarV):Nat→ByteArray
 | 0=>ByteArray.empty
 | i+1=>(V.getD i varZ).nm
def gAt(V:List VarV):Nat→List UInt8
 | 0=>[]
 | i+1=>(V.getD i varZ).g
def nextV(V:List VarV)(i:Nat):AV:=match V[i]? with
 | some v=> .tup [.val (.string v.nm),.agg (bytesA 16 v.g),.val (.int .i64 0)]
 | none=> .tup [.val (.string ByteArray.empty),.agg (bytesA 16 []),.val (.int .i64 3)]
theorem nextA_key{ks:List (List UInt8)}{beh:List UInt8}{V:List VarV}{i:Nat}(hV:∀v∈V,VOk v)(h:nextK ks beh=(V.map kV)[i]?):nextA ks beh=nextV V i:=by
 unfold nextA nextV
 rw[h,List.getElem?_map]
 cases hv:V[i]? with
 | none=>rfl
 | some v=>
  have:=hV v (List.mem_of_getElem? hv)
  simp only[Option.map_some]
  unfold kV keyV
  rw[List.drop_left' this.ok.g,List.take_left' this.ok.g,strOf_toList]
theorem nextV_on{P:Nat→Prop}(V:List VarV)(i:Nat):onA P (nextV V i):=by
 unfold nextV
 split<;>(repeat' apply And.intro)<;>exact trivial
theorem AFL.refl{mk:List (Nat×Ent)}(xs:List AV):AFL mk xs xs:=fun E E' H w vs _ _ hf h=>reps_ext hf.ext xs vs h
end Go.Proofs.YtpbpiehcchannaaGreatDoor
namespace Go.Proofs.YtpbpiehcchannaaGreatDoor
open Go.RowKit
set_option linter.unusedVariables false
set_option linter.unusedSimpArgs false
set_option maxRecDepth 100000
set_option maxHeartbeats 1500000
def toldA(x:AV)(u:VarV)(n:Int)(is:Bool)(e:Int):List AV:=varA x u++[.val (.int .i64 n),.val (.bool is),.val (.int .i64 e)]
theorem twin21_own(m:List UInt8)(hl:m.length≤140737488355328)(n:Nat)(hn:n=m.length)(v:Nat):Spec Tryz.prog 96 [.own 0 v 1 0 n] [⟨v,.bytes m⟩] (pms (.bs 0 m) [⟨v,.bytes m⟩] []):=by
 subst hn
 have h:=spec_ro (twin21_raw 0 ((m.drop 0).take m.length) (by rw[whole];exact hl)) trivial ⟨trivial,trivial⟩ (rows:=[⟨v,.bytes m⟩]) (args:=[.own 0 v 1 0 m.length]) (asL_cons (as_own rfl (by omega)) asL_nil)
 rw[whole] at h
 exact spec_frz h (by simp[geM,shM]) (AF.own rfl rfl) ⟨rfl,BF.same,trivial⟩
theorem twin21_nil:Spec Tryz.prog 96 [.val (.slice none 0 0)] [] (pms (.bs 0 []) [] []):=
 spec_frz (X:= .own 3 2 1 0 0) (rows:=[]) (rows':=[]) (mk:=[(3,⟨2,.bytes []⟩)]) (spec_ro (twin21_raw 0 [] (by decide)) trivial ⟨trivial,trivial⟩ (rows:=[]) (args:=[.val (.slice none 0 0)]) (asL_cons as_nil asL_nil)) (by simp[geM]) (AF.own rfl rfl) trivial
end Go.Proofs.YtpbpiehcchannaaGreatDoor
