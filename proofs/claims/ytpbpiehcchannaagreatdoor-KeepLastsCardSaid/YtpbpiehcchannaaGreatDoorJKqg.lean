/- What is done with a book and beside it with the document's. Walk of lintellaw21: KeepPlays. Conditions: the premises of each law. -/
import Derived.Test.YtpbpiehcchannaaGreatDoorJKqf
namespace Go.Proofs.YtpbpiehcchannaaGreatDoor
set_option linter.unusedVariables false
set_option linter.unusedSimpArgs false
set_option maxRecDepth 100000
set_option maxHeartbeats 3000000
open Go.RowKit
theorem ry{s s2:U}{o:du}{u:aU}{n:Int}{is:Bool}{e:Int}{vk vs va vb v0 v1 yX rh yY yZ:Nat}(hd:u.d=[])(h:Spec Tryz.prog 48 [.ref 4 v0 6 0 0,.ref 0 vk 1 0 0,.agg (bY o)] [⟨vk,.obj [.ref 1 vs 3 0 0]⟩,⟨vs,.obj [.ref 4 v0 6 0 0,.ref 2 va 3 0 0,.ref 3 vb 3 0 0]⟩,⟨va,.obj [.ref 4 v0 6 0 0,.val (.int .i64 ((0:Nat):Int)),.val (.int .i64 (1:Int))]⟩,⟨vb,.obj [.ref 4 v0 6 0 0,.val (.int .i64 (1:Int)),.val (.int .i64 (1:Int))]⟩,⟨v0,.obj [.own 5 v1 1 0 s.l.length,.val (.int .i64 (s.k:Int)),.val (.int .i64 s.ar),.val (.int .i64 s.pt),.val (.bool s.dd),.val (.int .i64 s.wr)]⟩,⟨v1,.bytes s.l⟩] (ak (.aD [.agg (fC (.val (.slice none 0 0)) u n is e),.ref 0 (yX) 1 0 0]) [⟨(yX),.obj [.ref 1 (rh) 3 0 0]⟩,⟨(rh),.obj [.ref 4 v0 6 0 0,.ref 2 (yY) 3 0 0,.ref 3 (yZ) 3 0 0]⟩,⟨(yY),.obj [.ref 4 v0 6 0 0,.val (.int .i64 ((0:Nat):Int)),.val (.int .i64 (1:Int))]⟩,⟨(yZ),.obj [.ref 4 v0 6 0 0,.val (.int .i64 (1:Int)),.val (.int .i64 (1:Int))]⟩,⟨v0,.obj [.own 5 v1 1 0 s2.l.length,.val (.int .i64 (s2.k:Int)),.val (.int .i64 s2.ar),.val (.int .i64 s2.pt),.val (.bool s2.dd),.val (.int .i64 s2.wr)]⟩,⟨v1,.bytes s2.l⟩] [])):Spec Tryz.prog 48 [.ref 4 v0 6 0 0,.ref 0 vk 1 0 0,.agg (bY o)] [⟨vk,.obj [.ref 1 vs 3 0 0]⟩,⟨vs,.obj [.ref 4 v0 6 0 0,.ref 2 va 3 0 0,.ref 3 vb 3 0 0]⟩,⟨va,.obj [.ref 4 v0 6 0 0,.val (.int .i64 ((0:Nat):Int)),.val (.int .i64 (1:Int))]⟩,⟨vb,.obj [.ref 4 v0 6 0 0,.val (.int .i64 (1:Int)),.val (.int .i64 (1:Int))]⟩,⟨v0,.obj [.own 5 v1 1 0 s.l.length,.val (.int .i64 (s.k:Int)),.val (.int .i64 s.ar),.val (.int .i64 s.pt),.val (.bool s.dd),.val (.int .i64 s.wr)]⟩,⟨v1,.bytes s.l⟩] (ak (.aD [.agg (kl ⟨u,n,is,e⟩),.ref 0 (yX) 1 0 0]) [⟨(yX),.obj [.ref 1 (rh) 3 0 0]⟩,⟨(rh),.obj [.ref 4 v0 6 0 0,.ref 2 (yY) 3 0 0,.ref 3 (yZ) 3 0 0]⟩,⟨(yY),.obj [.ref 4 v0 6 0 0,.val (.int .i64 ((0:Nat):Int)),.val (.int .i64 (1:Int))]⟩,⟨(yZ),.obj [.ref 4 v0 6 0 0,.val (.int .i64 (1:Int)),.val (.int .i64 (1:Int))]⟩,⟨v0,.obj [.own 5 v1 1 0 s2.l.length,.val (.int .i64 (s2.k:Int)),.val (.int .i64 s2.ar),.val (.int .i64 s2.pt),.val (.bool s2.dd),.val (.int .i64 s2.wr)]⟩,⟨v1,.bytes s2.l⟩] []):=
 ix h (by simp[eM]) (AF.aD (aZ.cons (AF.agg (DI (by show AF [] _ (.bs 0 u.d);rw[hd];exact AF.nil) u n is e)) (aZ.cons AF.same aZ.nil))) ⟨rfl,BF.same,rfl,BF.same,rfl,BF.same,rfl,BF.same,rfl,BF.same,rfl,BF.same,trivial⟩
theorem oB{R R2:List RK}{y:Nat}{o:du}{u:aU}{n:Int}{is:Bool}{e:Int}{wb wm:Nat}(hd:u.d=[])(h:Spec Tryz.prog 53 [.ref 0 wb 1 0 0,.agg (bY o)] [⟨wb,.obj [.ref 1 wm 3 0 0]⟩,⟨wm,.obj [.sl 0 1 (fun k:List UInt8=>[AV.bs 0 k]) [] (av R),.sl 0 1 (fun k:List UInt8=>[AV.bs 0 k]) [] (aL R),.val (.int .i64 (bR y))]⟩] (ak (.agg (fC (.val (.slice none 0 0)) u n is e)) [⟨wb,.obj [.ref 1 wm 3 0 0]⟩,⟨wm,.obj [.sl 0 1 (fun k:List UInt8=>[AV.bs 0 k]) [] (av R2),.sl 0 1 (fun k:List UInt8=>[AV.bs 0 k]) [] (aL R2),.val (.int .i64 (bR y))]⟩] [])):Spec Tryz.prog 53 [.ref 0 wb 1 0 0,.agg (bY o)] [⟨wb,.obj [.ref 1 wm 3 0 0]⟩,⟨wm,.obj [.sl 0 1 (fun k:List UInt8=>[AV.bs 0 k]) [] (av R),.sl 0 1 (fun k:List UInt8=>[AV.bs 0 k]) [] (aL R),.val (.int .i64 (bR y))]⟩] (ak (.agg (kl ⟨u,n,is,e⟩)) [⟨wb,.obj [.ref 1 wm 3 0 0]⟩,⟨wm,.obj [.sl 0 1 (fun k:List UInt8=>[AV.bs 0 k]) [] (av R2),.sl 0 1 (fun k:List UInt8=>[AV.bs 0 k]) [] (aL R2),.val (.int .i64 (bR y))]⟩] []):=
 ix h (by simp[eM]) (AF.agg (DI (by show AF [] _ (.bs 0 u.d);rw[hd];exact AF.nil) u n is e)) ⟨rfl,BF.same,rfl,BF.same,trivial⟩
theorem SB{nm:ByteArray}(h:bM nm=true):nm.size≤64:=by
 unfold bM at h
 simp only[Bool.and_eq_true,decide_eq_true_eq] at h
 omega
theorem SC(v:Nat){l l':List AV}(hl:l'.length=l.length)(h:∀(E:Env)(w:World)(vs:List Value),aq E w l vs→aq E w l' vs):dt ⟨v,.obj l⟩ ⟨v,.obj l'⟩:=by
 refine⟨rfl,fun _=>rfl,fun q=>by simp only[Bd.count] at q⊢;exact q,fun _ E w b h0=>⟨fun _=> ?_,fun _ _ _ q=>by cases q⟩,fun _ q=>by cases q⟩
 obtain⟨cur,T,lo,hi,h1,h2,h3,h4⟩:=h0.aQ rfl
 refine⟨cur,T,lo,hi,h1,h2,by simp only[Bd.count,Bd.sz,hl] at h3⊢;exact h3,fun i ys hy=> ?_⟩
 simp only[Bd.at] at hy
 split at hy
 ·rename_i fe
  cases hy
  obtain⟨cs,k1,k2,k3⟩:=h4 i l (by simp[Bd.at,fe])
  simp only[Bd.sz,hl] at k1 k3⊢
  exact⟨cs,k1,h E w cs k2,k3⟩
 ·cases hy
theorem SD(v:Nat)(u:Value):dt ⟨v,.obj [.val (.slice none 0 0),.val (.slice none 0 0),.val u]⟩ ⟨v,.obj [.sl 0 1 (fun k:List UInt8=>[AV.bs 0 k]) [] (av []),.sl 0 1 (fun k:List UInt8=>[AV.bs 0 k]) [] (aL []),.val u]⟩:=by
 refine SC v rfl fun E w vs h=> ?_
 simp only[aq] at h⊢
 obtain⟨a,r,h1,h2,b,q,h3,h4,h5⟩:=h
 have nil:∀{a:Value},ae E w (.val (.slice none 0 0)) a→ae E w (.sl 0 1 (fun k:List UInt8=>[AV.bs 0 k]) [] ([]:List (List UInt8))) a:=fun{a} h=>by
  simp only[ae] at h⊢
  exact⟨none,0,0,h,rfl,Nat.le_refl _,Nat.zero_le _,fun _=>rfl,fun i x hx=>by simp at hx⟩
 exact⟨a,r,h1,nil h2,b,q,h3,nil h4,h5⟩
end Go.Proofs.YtpbpiehcchannaaGreatDoor
