/- Abstract values: further operations, regions, code, functions. Conditions: none. -/
import Derived.Test.YtpbpiehcchannaaGreatDoorJAa
import Derived.Test.YtpbpiehcchannaaGreatDoorJRg
import Derived.Scope
import Derived.RangeFuncLeaves
import Derived.OrdersIn
import Derived.TacticsIn
import Derived.OwnWalkIn
import Derived.KernelRfl
namespace Go.Proofs.YtpbpiehcchannaaGreatDoor
set_option linter.unusedVariables false
set_option linter.unusedSimpArgs false
open Go.RowKit
section
variable {P:Program} {o:Oper} {ev:Operand→AV} {hg:Nat→Option J}
theorem Eu{l:List UInt8}{i:Nat}{ys:List AV}:(dJ l)[i]? =some ys↔∃b,l[i]? =some b∧ys=[.val (bv b)]:=by
 simp only[dJ,List.getElem?_map,Option.map_eq_some_iff]
 constructor
 ·rintro⟨b,h1,h2⟩;exact⟨b,h1,h2.symm⟩
 ·rintro⟨b,h1,h2⟩;exact⟨b,h1,h2.symm⟩
theorem zS:∀(us ie:List (Nat×J))(H:List J),aM H (us++ie)=aM (aM H us) ie
 | [],ie,H=>rfl
 | (r,e)::us,ie,H=>by simp only[List.cons_append,aM];exact zS us ie _
theorem Out.trans{E E1 E2:Env}{w w1 w2:World}{H:List J}{us ie:List (Nat×J)}(o:Out E E1 w w1 H us)(o':Out E1 E2 w1 w2 (aM H us) ie):Out E E2 w w2 H (us++ie):=by
 refine⟨o.ext.trans o'.ext,by rw[zS];exact o'.hr,o'.os.trans o.os,o'.tape.trans o.tape,o'.output.trans o.output,Nat.le_trans o.size o'.size,fun z b h=> ?_,fun k cur T fz h=> ?_,fun k hk h=> ?_,fun r e b hr hl=> ?_⟩
 ·rcases o'.aC z b h with h1 | h1 | ⟨r,e,h1,h2⟩
  ·exact o.aC z b h1
  ·exact .inr (.inl (Nat.le_trans o.size h1))
  ·rcases o.rows r e b h1 h2 with h3 | ⟨r0,e0,h3,h4,_⟩
   ·exact .inr (.inl h3)
   ·exact .inr (.inr ⟨r0,e0,h3,h4⟩)
 ·obtain⟨c1,T1,f1,h1,h2⟩:=o.grow k cur T fz h
  obtain⟨c2,T2,f2,h3,h4⟩:=o'.grow k c1 T1 f1 h1
  exact⟨c2,T2,f2,h3,Nat.le_trans h2 h4⟩
 ·have hb:=o.block k hk (fun r e hr hl c7=>h r e hr hl (by rw[List.map_append];exact List.mem_append_left _ c7))
  refine(o'.block k (Nat.lt_of_lt_of_le hk o.size) (fun r e hr hl c7=> ?_)).trans hb
  rcases o.rows r e k hr hl with h1 | ⟨r0,e0,h2,h3,h4⟩
  ·omega
  ·refine h r0 e0 h2 h3 ?_
   rw[List.map_append]
   rcases h4 with rfl | h4
   ·exact List.mem_append_right _ c7
   ·exact List.mem_append_left _ h4
 ·rw[zS] at hr
  rcases o'.rows r e b hr hl with h1 | ⟨r0,e0,h2,h3,h7⟩
  ·exact .inl (Nat.le_trans o.size h1)
  ·rcases o.rows r0 e0 b h2 h3 with h4 | ⟨r1,e1,h5,h6,h8⟩
   ·exact .inl (by omega)
   ·refine .inr ⟨r1,e1,h5,h6,?_⟩
    rw[List.map_append]
    rcases h8 with rfl | h8
    ·exact h7.imp id (List.mem_append_right _)
    ·exact .inr (List.mem_append_left _ h8)
def rP(tb:TypeId→Option TI)(hg:Nat→Option J)(Tx:TypeId)(ei:TI)(x:AV)(K:Prop→Nat→List (List AV)→Prop):Prop:=match tb Tx with
 | none=>False
 | some xi=>match xi.u with
  | .int _=>match x with
   | .val (.int _ n)=>match ei.zero with
    | [u]=>K (0≤n∧n.toNat*ei.bytes≤140737488355328∧n≤9223372036854775807∧u.oneCell'=true∧ei.sz=1) 1 (List.replicate n.toNat [.val u])
    | _=>False
   | _=>False
  | _=>zP tb hg Tx x K
theorem wY {tb : TypeId → Option TI} (ay : cD P tb) {T Tx ty El : TypeId} {ei : TI} (hT : P.underlying T = some (.slice El)) {i : TypeInfo} {z : Value} (hi : P.info? El = some i) (lu : i.zero = some z) (lZ : i.size = ei.sz) (kN : i.bytes = ei.bytes) (dT : z.cells.toList = ei.zero)
    {x:AV} {K:Prop→Nat→List (List AV)→Prop} (h:rP tb hg Tx ei x K):
    ∃Ψ sz els,K Ψ sz els∧(Ψ→∀(E:Env)(H:List J)(w:World)(v:Value),HR E w H→(∀(r:Nat)(e:J),hg r=some e→H[r]? =some e)→ae E w x v→
     (els=[]∨ei.sz=sz)→∃news,Ap P T Tx ty El i z v els.length news w∧∀k ys,els[k]? =some ys→∃us:List Value,us.length=ei.sz∧aq E w ys us∧∀j u,us[j]? =some u→news[k*ei.sz+j]? =some u):=by
 unfold rP at h
 split at h
 ·exact h.elim
 rename_i xi tU
 have fZ:=(ay Tx xi tU).u
 split at h
 ·rename_i kn hu
  rw[hu] at fZ
  have KZ:P.underlying Tx=some (.int kn):=fZ
  split at h
  rotate_left
  ·exact h.elim
  rename_i k n
  split at h
  rotate_left
  ·exact h.elim
  rename_i u jW
  refine⟨_,_,_,h,fun p E H w v hr hh hv hs=> ?_⟩
  obtain⟨p1,p2,p3,p4,p5⟩:=p
  have hv:=bq hv
  have hn:(n:Int)=(n.toNat:Int):=by omega
  have zM:z.cells= #[u]:=by apply Array.ext';rw[dT,jW]
  refine⟨List.replicate n.toNat u,?_,fun k ys hy=> ?_⟩
  ·rw[hv,List.length_replicate,hn]
   exact Ap.KN hT KZ hi lu zM p4 (by omega) (by omega) (by rw[kN];omega)
  ·rw[List.getElem?_replicate] at hy
   split at hy
   ·rename_i hk
    cases hy
    refine⟨[u],by rw[p5];rfl,by simp only[aq,ae];exact⟨_,_,rfl,rfl,rfl⟩,fun j v hv=> ?_⟩
    cases j with
    | zero=>simp at hv;subst hv;rw[p5,Nat.mul_one,Nat.add_zero,List.getElem?_replicate,if_pos hk]
    | succ j=>simp at hv
   ·cases hy
 ·obtain⟨Ψ,sz,els,h1,h2⟩:=KV ay h
  refine⟨Ψ,sz,els,h1,fun p E H w v hr hh hv hs=> ?_⟩
  obtain⟨news,h3,h4⟩:=h2 p E H w v hr hh hv ei.sz hs
  exact⟨news,Ap.KM hT hi lu (by rw[lZ];exact h3),h4⟩
def zT(tb:TypeId→Option TI)(hg:Nat→Option J)(p:Nat)(o:Oper)(T Tx:TypeId)(s x:AV)(K:KF):Prop:=match tb T with
 | none=>False
 | some ti=>match ti.u with
  | .slice El=>match tb El with
   | none=>False
   | some ei=>match s with
    | .own r ver sz off n=>match hg r with
     | none=>False
     | some e=>match e.bd with
      | .bytes l=>rP tb hg Tx ei x fun Ψ s2 els=>∃m,K (ver=e.ver∧Ψ∧sz=1∧ei.sz=1∧off=0∧n=l.length∧s2=1∧els=dJ m∧(l.length+m.length)*ei.bytes≤140737488355328∧0<ei.bytes) (.own r (e.ver+1) 1 0 (l.length+m.length)) [(r,⟨e.ver+1,.bytes (l++m)⟩)]
      | .row sz' f d l=>rP tb hg Tx ei x fun Ψ s2 els=>∃(β:Type)(f':β→List AV)(d':β)(m:List β),K (ver=e.ver∧Ψ∧sz=sz'∧ei.sz=sz'∧off=0∧n=l.length∧(els=[]∨s2=sz')∧l.map f++els=m.map f'∧m.length*ei.bytes≤140737488355328∧0<ei.bytes) (.own r (e.ver+1) sz' 0 m.length) [(r,⟨e.ver+1,.row sz' f' d' m⟩)]
      | _=>False
    | .val (.slice none 0 0)=>match o.dst with
     | none=>False
     | some d=>match hg (p+d) with
      | none=>False
      | some e=>match ei.u with
       | .int .u8=>rP tb hg Tx ei x fun Ψ s2 els=>∃m,K (Ψ∧ei.sz=1∧s2=1∧els=dJ m∧m.length*ei.bytes≤140737488355328∧0<ei.bytes) (.own (p+d) (e.ver+2) 1 0 m.length) [(p+d,⟨e.ver+1,.bytes []⟩),(p+d,⟨e.ver+2,.bytes m⟩)]
       | _=>rP tb hg Tx ei x fun Ψ s2 els=>∃(β:Type)(f':β→List AV)(d':β)(m:List β),K (Ψ∧(els=[]∨s2=ei.sz)∧els=m.map f'∧m.length*ei.bytes≤140737488355328∧0<ei.bytes) (.own (p+d) (e.ver+2) ei.sz 0 m.length) [(p+d,⟨e.ver+1,.row ei.sz f' d' []⟩),(p+d,⟨e.ver+2,.row ei.sz f' d' m⟩)]
    | _=>False
  | _=>False
theorem wZ{a b:Nat}(h:a*b≤140737488355328)(hb:0<b):a≤maxLen:=by
 have:a*1≤a*b:=Nat.mul_le_mul_left _ hb
 unfold maxLen;omega
theorem K1{tb:TypeId→Option TI}(ay:cD P tb){p:Nat}{T Tx:TypeId}{s x:Operand}(ho:o.op= .call {callee:= .builtin .append,args:= #[s,x],argTypes:= #[T,Tx]})
 {K:KF} (h:zT tb hg p o T Tx (ev s) (ev x) K):∃Φ v us,K Φ v us∧bm P o ev hg Φ v us:=by
  unfold zT at h
  split at h
  ·exact h.elim
  rename_i ti bT
  have hT:=(ay T ti bT).u
  split at h
  rotate_left
  ·exact h.elim
  rename_i El hu
  rw[hu] at hT
  have bO:P.underlying T=some (.slice El):=hT
  split at h
  ·exact h.elim
  rename_i ei fX
  have hE:=ay El ei fX
  obtain⟨z,hz,dT⟩:=hE.info
  obtain⟨i,hi,lu,lZ,kN⟩:=info_parts hz
  have iS:∀{E:Env}{w:World}{al:Operand→Value},(∀x∈aR o.op,ae E w (ev x) (al x))→ae E w (ev s) (al s)∧ae E w (ev x) (al x):=by
   intro E w al au
   rw[ho] at au
   exact⟨au s (by simp[aR]),au x (by simp[aR])⟩
  have hex:∀{w w':World}{al:Operand→Value}{v:Value},(Builtin.append_ #[T,Tx] o.type #[al s,al x]).run P w= .ok v w'→(execOp al o).run P w= .ok (.value v) w':=by
   intro w w' al v hr
   unfold execOp
   simp only[ho,resolve,invoke,builtin,Sem.run_bind,Sem.run_pure,Result.andThen_ok,List.map_toArray,List.map_cons,List.map_nil,hr]
  split at h
  ·rename_i r ver sz off n hs
   split at h
   ·exact h.elim
   rename_i e he
   split at h
   ·rename_i l hb
    obtain⟨Ψ,s2,els,h,nQ⟩:=wY (ty:=o.type) ay bO hi lu lZ kN dT h
    obtain⟨m,h⟩:=h
    refine⟨_,_,_,h,fun q E H w al hr hh au=> ?_⟩
    obtain⟨q1,q2,q3,q4,q5,q6,q7,q8,q9,mQ⟩:=q
    obtain⟨hv,hx⟩:=iS au
    rw[hs,q3,q5] at hv
    have hH:=hh r e he
    obtain⟨news,mR,cK⟩:=nQ q2 E H w _ hr hh hx (.inr (q4.trans q7.symm))
    have hlen:els.length=m.length:=by rw[q8];simp[dJ]
    rw[hlen] at mR
    obtain⟨cv,w',E',h1,h2,h3⟩:=wW (ty:=o.type) (bd':= .bytes (l++m)) bO hE hr hH hv (q1.trans (hr.ver r e hH).symm) hi lu lZ kN dT mR (by rw[hb,q6];rfl) (by rw[hb];rfl) q4 (by rw[hb];rfl) (by rw[q6];simp[Bd.count]) rfl rfl (fun i ys hy=>by
        simp only[Bd.at,List.getElem?_append,Option.map_eq_some_iff] at hy
        obtain⟨b,ek,rfl⟩:=hy
        split at ek
        ·rename_i ah
         exact .inl ⟨by omega,by rw[hb];simp[Bd.at,ek]⟩
        ·rename_i ah
         refine .inr ⟨by omega,?_⟩
         obtain⟨us,k1,k2,k3⟩:=cK (i - l.length) [.val (bv b)] (by rw[q8];exact Eu.2 ⟨b,ek,rfl⟩)
         rw[q4] at k1 k3
         exact⟨us,k1,k2,fun j u hu=>by rw[q6];exact k3 j u hu⟩) (fun i hi=>by rw[hb];simp only[Bd.at];rw[List.getElem?_eq_getElem (by omega)];exact⟨_,rfl⟩) (by rw[q6];exact q9) (by rw[q6];exact wZ q9 mQ)
    refine⟨cv,w',E',.inl (hex h1),?_,h3⟩
    rw[q6] at h2;exact h2
   ·rename_i sz' α f d l hb
    obtain⟨Ψ,s2,els,h,nQ⟩:=wY (ty:=o.type) ay bO hi lu lZ kN dT h
    obtain⟨β,f',d',m,h⟩:=h
    refine⟨_,_,_,h,fun q E H w al hr hh au=> ?_⟩
    obtain⟨q1,q2,q3,q4,q5,q6,q7,q8,q9,mQ⟩:=q
    obtain⟨hv,hx⟩:=iS au
    rw[hs,q3,q5] at hv
    have hH:=hh r e he
    obtain⟨news,mR,cK⟩:=nQ q2 E H w _ hr hh hx (q7.imp id fun h=>q4.trans h.symm)
    rw[q4] at cK
    have Ev:m.length=l.length+els.length:=by have:=congrArg List.length q8;simpa using this.symm
    have zU:∀(i:Nat) b,m[i]? =some b→(l.map f++els)[i]? =some (f' b):=fun i b hb=>by rw[q8];simp[hb]
    rw[Ev] at q9⊢
    obtain⟨cv,w',E',h1,h2,h3⟩:=wW (ty:=o.type) (bd':= .row sz' f' d' m) bO hE hr hH hv (q1.trans (hr.ver r e hH).symm) hi lu lZ kN dT mR (by rw[hb,q6];rfl) (by rw[hb];rfl) q4 (by rw[hb];rfl) (by rw[q6];simp only[Bd.count];exact Ev) rfl rfl (fun i ys hy=>by
        simp only[Bd.at,Option.map_eq_some_iff] at hy
        obtain⟨b,ek,rfl⟩:=hy
        have kI:=zU i b ek
        rw[List.getElem?_append] at kI
        split at kI
        ·rename_i ah
         rw[List.length_map] at ah
         exact .inl ⟨by omega,by rw[hb];simpa [Bd.at] using kI⟩
        ·rename_i ah
         rw[List.length_map] at ah kI
         refine .inr ⟨by omega,?_⟩
         obtain⟨us,k1,k2,k3⟩:=cK (i - l.length) (f' b) kI
         exact⟨us,k1,k2,fun j u hu=>by rw[q6];exact k3 j u hu⟩) (fun i hi=>by rw[hb];simp only[Bd.at];rw[List.getElem?_eq_getElem (by omega)];exact⟨_,rfl⟩) (by rw[q6];exact q9) (by rw[q6];exact wZ q9 mQ)
    refine⟨cv,w',E',.inl (hex h1),?_,h3⟩
    rw[q6] at h2;exact h2
   ·exact h.elim
  ·rename_i hs
   split at h
   ·exact h.elim
   rename_i d hd
   split at h
   ·exact h.elim
   rename_i e he
   -- the row that is begun: nothing, without a block
   have start : ∀ {E : Env} {H : List J} {w : World} {al : Operand → Value} (zV : Bd) (sz : Nat), HR E w H → H[p + d]? = some e → ae E w (ev s) (al s) → zV.count = 0 →
       ae (E.ic (p+d) (e.ver+1)) w (.own (p+d) (e.ver+1) sz 0 0) (al s)∧Out E (E.ic (p+d) (e.ver+1)) w w H [(p+d,⟨e.ver+1,zV⟩)]∧(E.ic (p+d) (e.ver+1)).ver (p+d)=e.ver+1:=by
    intro E H w al zV sz hr hH hv h0
    rw[hs] at hv
    refine⟨?_,Out.absent hr hH (by omega) h0,by simp[Env.ic]⟩
    rw[bq hv,ae]
    exact⟨by simp[Env.ic],fun _=>⟨none,0,rfl,Nat.le_refl _,Nat.zero_le _,fun _=>rfl,.inl rfl⟩⟩
   split at h
   ·obtain⟨Ψ,s2,els,h,nQ⟩:=wY (ty:=o.type) ay bO hi lu lZ kN dT h
    obtain⟨m,h⟩:=h
    refine⟨_,_,_,h,fun q E H w al hr hh au=> ?_⟩
    obtain⟨q2,q4,q7,q8,q9,mQ⟩:=q
    obtain⟨hv,hx⟩:=iS au
    have hH:=hh _ e he
    have ah:=(List.getElem?_eq_some_iff.1 hH).1
    obtain⟨news,mR,cK⟩:=nQ q2 E H w _ hr hh hx (.inr (q4.trans q7.symm))
    have hlen:els.length=m.length:=by rw[q8];simp[dJ]
    rw[hlen] at mR
    obtain⟨rQ,o1,zW⟩:=start (.bytes []) 1 hr hH hv rfl
    have nR:(aM H [(p+d,⟨e.ver+1,.bytes []⟩)])[p+d]? =some ⟨e.ver+1,.bytes []⟩:=by
     simp only[aM,bK];exact List.getElem?_set_self ah
    obtain⟨cv,w',E',h1,h2,h3⟩:=wW (ty:=o.type) (bd':= .bytes m) bO hE o1.hr nR rQ zW.symm hi lu lZ kN dT mR rfl rfl q4 rfl (by simp[Bd.count]) rfl rfl (fun i ys hy=>by
        simp only[Bd.at,Option.map_eq_some_iff] at hy
        obtain⟨b,ek,rfl⟩:=hy
        refine .inr ⟨Nat.zero_le _,?_⟩
        obtain⟨us,k1,k2,k3⟩:=cK i [.val (bv b)] (by rw[q8];exact Eu.2 ⟨b,ek,rfl⟩)
        rw[q4] at k1 k3
        exact⟨us,k1,fV o1.ext _ _ k2,fun j u hu=>by rw[Nat.sub_zero];exact k3 j u hu⟩) (fun i hi=>absurd hi (Nat.not_lt_zero i)) (by rw[Nat.zero_add];exact q9) (by rw[Nat.zero_add];exact wZ q9 mQ)
    refine⟨cv,w',E',.inl (hex h1),?_,o1.trans h3⟩
    rw[Nat.zero_add] at h2;exact h2
   ·obtain⟨Ψ,s2,els,h,nQ⟩:=wY (ty:=o.type) ay bO hi lu lZ kN dT h
    obtain⟨β,f',d',m,h⟩:=h
    refine⟨_,_,_,h,fun q E H w al hr hh au=> ?_⟩
    obtain⟨q2,q7,q8,q9,mQ⟩:=q
    obtain⟨hv,hx⟩:=iS au
    have hH:=hh _ e he
    have ah:=(List.getElem?_eq_some_iff.1 hH).1
    obtain⟨news,mR,cK⟩:=nQ q2 E H w _ hr hh hx (q7.imp id Eq.symm)
    have hlen:els.length=m.length:=by rw[q8];simp
    rw[hlen] at mR
    obtain⟨rQ,o1,zW⟩:=start (.row ei.sz f' d' []) ei.sz hr hH hv rfl
    have nR:(aM H [(p+d,⟨e.ver+1,.row ei.sz f' d' []⟩)])[p+d]? =some ⟨e.ver+1,.row ei.sz f' d' []⟩:=by
     simp only[aM,bK];exact List.getElem?_set_self ah
    obtain⟨cv,w',E',h1,h2,h3⟩:=wW (ty:=o.type) (bd':= .row ei.sz f' d' m) bO hE o1.hr nR rQ zW.symm hi lu lZ kN dT mR rfl rfl rfl rfl (by simp[Bd.count]) rfl rfl (fun i ys hy=>by
        simp only[Bd.at,Option.map_eq_some_iff] at hy
        obtain⟨b,ek,rfl⟩:=hy
        refine .inr ⟨Nat.zero_le _,?_⟩
        obtain⟨us,k1,k2,k3⟩:=cK i (f' b) (by rw[q8];simp[ek])
        exact⟨us,k1,fV o1.ext _ _ k2,fun j u hu=>by rw[Nat.sub_zero];exact k3 j u hu⟩) (fun i hi=>absurd hi (Nat.not_lt_zero i)) (by rw[Nat.zero_add];exact q9) (by rw[Nat.zero_add];exact wZ q9 mQ)
    refine⟨cv,w',E',.inl (hex h1),?_,o1.trans h3⟩
    rw[Nat.zero_add] at h2;exact h2
  ·exact h.elim
theorem Ew {off : Nat} : ∀ (vs : List Value) (k : Nat) (cells : Array Value), off + k + vs.length ≤ cells.size →
    ((vs.zipIdx k).foldl (fun cs(c,j)=>cs.setIfInBounds (off+j) c) cells).toList=cells.toList.take (off+k)++vs++cells.toList.drop (off+k+vs.length)
 | [],k,cells,h=>by simp
 | v::vs,k,cells,h=>by
  simp only[List.length_cons] at h
  simp only[List.zipIdx_cons,List.foldl_cons]
  rw[Ew vs (k+1) _ (by simp;omega)]
  apply List.ext_getElem?
  intro i
  have hs:cells.toList.length=cells.size:=by simp
  simp only[Array.toList_setIfInBounds,List.getElem?_append,List.length_append,List.length_take,List.length_set,List.getElem?_take,List.getElem?_drop,List.getElem?_set,List.length_cons,Array.length_toList]
  by_cases hi:i<off+k
  ·have a1:i<min (off+(k+1)) cells.size:=by omega
   have a2:i<min (off+k) cells.size:=by omega
   have a3:i<min (off+(k+1)) cells.size+vs.length:=by omega
   have a4:i<min (off+k) cells.size+(vs.length+1):=by omega
   have a5:off+k≠i:=by omega
   have a6:i<off+(k+1):=by omega
   simp[a1,a2,a3,a4,a5,a6,hi]
  ·by_cases zX:i=off+k
   ·subst zX
    have a1:off+k<min (off+(k+1)) cells.size:=by omega
    have a3:off+k<min (off+(k+1)) cells.size+vs.length:=by omega
    have a2:¬off+k<min (off+k) cells.size:=by omega
    have a4:off+k<min (off+k) cells.size+(vs.length+1):=by omega
    have a5:off+k<cells.size:=by omega
    have a6:off+k - min (off+k) cells.size=0:=by omega
    have a7:off+k<off+(k+1):=by omega
    simp[a1,a2,a3,a4,a5,a6,a7]
   ·have e1:min (off+(k+1)) cells.size=off+k+1:=by omega
    have e2:min (off+k) cells.size=off+k:=by omega
    rw[e1,e2]
    by_cases c7:i<off+k+1+vs.length
    ·have a1:¬i<off+k+1:=by omega
     have a2:¬i<off+k:=by omega
     have a4:i<off+k+(vs.length+1):=by omega
     have a5:i - (off+k)=(i - (off+k+1))+1:=by omega
     simp only[c7,a1,a2,a4,if_true,if_false,a5,List.getElem?_cons_succ]
    ·have a4:¬i<off+k+(vs.length+1):=by omega
     have a5:¬off+k=off+(k+1)+vs.length+(i - (off+k+1+vs.length)):=by omega
     simp only[c7,a4,if_false,a5]
     congr 1;omega
def qd(hg:Nat→Option J)(place:Nat→Option (Nat×Nat)):List (Nat×AV)→List AV→(Prop→List AV→Prop)→Prop
 | [],zs,K=>K True zs
 | (k,x)::rest,zs,K=>match place k with
  | none=>False
  | some (off,sz)=>qd hg place rest (eY zs off (eU x)) fun Φ l=>K ((eU x).length=sz∧jT hg (eU x)∧off+sz≤zs.length∧Φ) l
theorem zY {place : Nat → Option (Nat × Nat)} : ∀ {parts : List (Nat × Operand)} {zs : List AV} {K : Prop → List AV → Prop}, qd hg place (parts.map fun p => (p.1, ev p.2)) zs K →
    ∃Φ l,K Φ l∧(Φ→∀(E:Env)(H:List J)(w:World)(al:Operand→Value)(cells:Array Value),HR E w H→(∀(r:Nat)(e:J),hg r=some e→H[r]? =some e)→(∀x∈parts.map (·.2),ae E w (ev x) (al x))→aq E w zs cells.toList→
     ∃cells',Instr.fill place cells (parts.map fun p=>(p.1,al p.2))=some cells'∧aq E w l cells'.toList)
 | [],zs,K,h=>⟨_,_,h,fun _ E H w al cells _ _ _ hz=>⟨cells,rfl,hz⟩⟩
 | (k,x)::rest,zs,K,h=>by
  simp only[List.map_cons,qd] at h
  split at h
  ·exact h.elim
  rename_i off sz hp
  obtain⟨Φ,l,h,hl⟩:=zY h
  refine⟨_,l,h,fun p E H w al cells hr hh au hz=> ?_⟩
  obtain⟨p1,p2,p3,p4⟩:=p
  obtain⟨f1,f2⟩:=wU p2 hr hh (au x (by simp))
  have fl:=(eX f1).1
  have zl:=(eX hz).1
  simp only[Array.length_toList] at fl zl
  have tV:=Ef off hz f1
  have K2:=Ew (off:=off) (al x).cells.toList 0 cells (by simp;omega)
  have e:(al x).cells.zipIdx.foldl (fun cs(c,j)=>cs.setIfInBounds (off+j) c) cells=((al x).cells.toList.zipIdx 0).foldl (fun cs(c,j)=>cs.setIfInBounds (off+j) c) cells:=by
   rw[←Array.foldl_toList,Array.toList_zipIdx]
  obtain⟨cells',h5,h6⟩:=hl p4 E H w al (((al x).cells.toList.zipIdx 0).foldl (fun cs(c,j)=>cs.setIfInBounds (off+j) c) cells) hr hh (fun y hy=>au y (by simp only[List.map_cons,List.mem_cons];exact .inr hy)) (by
   rw[K2,Nat.add_zero,List.append_assoc];exact tV)
  refine⟨cells',?_,h6⟩
  simp only[List.map_cons,Instr.fill,hp]
  rw[if_neg (by simp;omega),e]
  exact h5
def tW(tb:TypeId→Option TI):List (Nat×TypeId)→Option (List (Nat×Nat))
 | []=>some []
 | (off,ft)::fs=>match tb ft with
  | none=>none
  | some fi=>match tW tb fs with
   | none=>none
   | some l=>some ((off,fi.sz)::l)
def qe{α:Type}:List α→Nat→Option α
 | [],_=>none
 | x::_,0=>some x
 | _::l,n+1=>qe l n
theorem rR{α:Type}:∀(l:List α)(i:Nat),qe l i=l[i]?
 | [],_=>rfl
 | _::_,0=>rfl
 | _::l,i+1=>by simpa [qe] using rR l i
theorem Ey{tb:TypeId→Option TI}(ay:cD P tb):∀{ko:List Field}{l:List (Nat×Nat)},tW tb (ko.map fun f=>(f.offset,f.type))=some l→ko.mapM (fun f=>(P.info? f.type).map fun i=>(f.offset,i.size))=some l
 | [],l,h=>by simp[tW] at h;subst h;rfl
 | f::ko,l,h=>by
  simp only[List.map_cons,tW] at h
  split at h
  ·cases h
  rename_i fi pW
  split at h
  ·cases h
  rename_i l' bA
  cases h
  obtain⟨z,hz,_⟩:=(ay _ _ pW).info
  obtain⟨i,hi,h1,h2,h3⟩:=info_parts hz
  simp[List.mapM_cons,hi,h2,Ey ay bA]
def zZ(tb:TypeId→Option TI)(hg:Nat→Option J)(T:TypeId)(parts:List (Nat×AV))(K:KF):Prop:=match tb T with
 | none=>False
 | some ti=>match ti.u with
  | .struct fs=>match tW tb fs with
   | none=>False
   | some pl=>qd hg (qe pl) parts (ti.zero.map .val) fun Φ l=>K Φ (.agg l) []
  | .array _ El=>match tb El with
   | none=>False
   | some ei=>qd hg (fun i=>some (i*ei.sz,ei.sz)) parts (ti.zero.map .val) fun Φ l=>K Φ (.agg l) []
  | _=>False
theorem K3{tb:TypeId→Option TI}(ay:cD P tb){T:TypeId}{parts:Array (Nat×Operand)}(ho:o.op= .build T parts){K:KF}(h:zZ tb hg T (parts.toList.map fun p=>(p.1,ev p.2)) K):∃Φ v us,K Φ v us∧bm P o ev hg Φ v us:=by
 unfold zZ at h
 split at h
 ·exact h.elim
 rename_i ti bT
 have ht:=ay T ti bT
 obtain⟨z,hz,dT⟩:=ht.info
 obtain⟨i,hi,h1,h2,h3⟩:=info_parts hz
 have hT:=ht.u
 have fin : ∀ {place : Nat → Option (Nat × Nat)}, (qd hg place (parts.toList.map fun p => (p.1, ev p.2)) (ti.zero.map .val) fun Φ l => K Φ (.agg l) []) →
     (∀(w:World)(ps:Array (Nat×Value))(cells:Array Value),Instr.fill place z.cells ps.toList=some cells→(Instr.build T ps).run P w= .ok (.agg cells) w)→∃Φ v us,K Φ v us∧bm P o ev hg Φ v us:=by
  intro place h bB
  obtain⟨Φ,l,h,hl⟩:=zY h
  refine⟨_,_,_,h,bm.pure fun p E H w al hr hh au=> ?_⟩
  obtain⟨cells',h5,h6⟩:=hl p E H w al z.cells hr hh (by rw[ho] at au;exact au) (by rw[dT];exact nN _)
  refine⟨.agg cells',?_,by rw[ae];exact⟨cells'.toList,by simp,h6⟩⟩
  have h7:=bB w (parts.map fun(i,x)=>(i,al x)) cells' (by rw[←h5];congr 1;simp)
  unfold execOp
  simp only[ho,Sem.run_bind,h7,Result.andThen_ok,Sem.run_pure]
 split at h
 ·rename_i fs hu
  rw[hu] at hT
  obtain⟨ko,tX,tY⟩:=hT
  split at h
  ·exact h.elim
  rename_i pl c8
  rw[←tY] at c8
  have c8:=Ey ay c8
  refine fin h fun w ps cells z1=>run_build w T ps cells ?_
  unfold Program.built
  simp only[hi,tX,h1,c8]
  have e:(fun x=>pl.toArray[x]?)=qe pl:=funext fun x=>by rw[rR];simp
  rw[e];exact z1
 ·rename_i n El hu
  rw[hu] at hT
  have bO:P.underlying T=some (.array n El):=hT
  split at h
  ·exact h.elim
  rename_i ei fX
  obtain⟨z2,K4,_⟩:=(ay El ei fX).info
  obtain⟨i2,dU,h4,h5,h6⟩:=info_parts K4
  refine fin h fun w ps cells z1=>run_build w T ps cells ?_
  unfold Program.built
  simp only[hi,bO,h1,dU,h5]
  exact z1
 ·exact h.elim
end

section
variable {P:Program} {o:Oper} {ev:Operand→AV} {hg:Nat→Option J}
def mS(hg:Nat→Option J)(p:Nat)(o:Oper)(n:Nat)(bd:Bd)(K:KF):Prop:=match o.dst with
 | none=>False
 | some d=>match hg (p+d) with
  | none=>False
  | some e=>K True (.own (p+d) (e.ver+1) bd.sz 0 n) [(p+d,⟨e.ver+1,bd⟩)]
theorem rS {p n : Nat} {bd : Bd} {K : KF} {Ψ : Prop} (h : mS hg p o n bd fun Φ v us => K (Ψ ∧ Φ) v us) (bB : Ψ → bd.count = n ∧ ∀ (E : Env) (H : List J) (w : World) (al : Operand → Value), HR E w H → (∀ (r : Nat) (e : J), hg r = some e → H[r]? = some e) → (∀ x ∈ aR o.op, ae E w (ev x) (al x)) →
    ∃(cs:Array Value)(T:TypeId)(c:Nat),(execOp al o).run P w= .ok (.value (.slice (some ⟨w.heap.size,0,none⟩) n c)) (w.alloc (.cells cs T))∧n≤c∧c≤maxLen∧c*bd.sz≤cs.size∧
     ∀i ys,bd.at i=some ys→∃us:List Value,us.length=bd.sz∧aq E w ys us∧∀j u,us[j]? =some u→cs[i*bd.sz+j]? =some u) (fY:bd.oF=false:=by rfl):∃Φ v us,K Φ v us∧bm P o ev hg Φ v us:=by
 unfold mS at h
 split at h
 ·exact h.elim
 rename_i d hd
 split at h
 ·exact h.elim
 rename_i e he
 refine⟨_,_,_,h,fun p' E H w al hr hh au=> ?_⟩
 obtain⟨K5,bB⟩:=bB p'.1
 obtain⟨cs,T,c,h1,h2,h3,h4,h5⟩:=bB E H w al hr hh au
 have O:=Out.new (T:=T) (cs:=cs.toList) (bd':=bd) hr (hh _ _ he) (by rw[K5];simp;exact Nat.le_trans (Nat.mul_le_mul_right _ h2) h4) (fun i ys hy=>by
  obtain⟨us,k1,k2,k3⟩:=h5 i ys hy
  exact⟨us,k1,k2,fun j u hu=>by simpa using k3 j u hu⟩) fY
 have e1:cs.toList.toArray=cs:=by simp
 rw[e1] at O
 refine⟨_,_,_,.inl h1,?_,O⟩
 rw[ae,Env.kH,Env.ln]
 refine⟨Nat.le_refl _,fun _=>⟨_,c,rfl,h2,h3,(fun h=>by cases h),.inr ⟨Env.oK _ _ _ _,by rw[Nat.zero_mul],_,_,_,heap_alloc_new w _,?_⟩⟩⟩
 rw[Nat.zero_add];exact h4
def qf:List Int→Prop
 | []=>True
 | n::l=>(0≤n∧n≤255)∧qf l
theorem w6:∀{l:List Int},qf l→∀n∈l,0≤n∧n≤255
 | n::l,h,m,hm=>by
  rcases List.mem_cons.1 hm with rfl | hm
  ·exact h.1
  ·exact w6 h.2 m hm
def z6(tb:TypeId→Option TI)(hg:Nat→Option J)(p:Nat)(o:Oper)(ei:TI)(len:Nat)(cells:List AV)(Ψ:Prop)(K:KF):Prop:=match ei.u with
 | .int .u8=>match mM .u8 cells with
  | some ns=>mS hg p o len (.bytes (ns.map fun n=>UInt8.ofNat n.toNat)) fun Φ v us=>K ((Ψ∧qf ns∧ns.length=len∧ei.sz=1)∧Φ) v us
  | none=>False
 | .int k=>match mM k cells with
  | some ns=>mS hg p o len (.row 1 (dy k) 0 ns) fun Φ v us=>K ((Ψ∧ns.length=len∧ei.sz=1)∧Φ) v us
  | none=>False
 | _=>mS hg p o len (.row ei.sz (fun i=>dw (dc cells (i*ei.sz)) ei.sz) 0 (List.range len)) fun Φ v us=>K ((Ψ∧cells.length=len*ei.sz)∧Φ) v us
def oP(n:Nat)(zs:List AV):List AV:=match n with
 | 0=>[]
 | n+1=>zs++oP n zs
def z7(tb:TypeId→Option TI)(hg:Nat→Option J)(p:Nat)(o:Oper)(T:TypeId)(len:Nat)(parts:List (Nat×AV))(K:KF):Prop:=match tb T with
 | none=>False
 | some ti=>match ti.u with
  | .slice El=>match tb El with
   | none=>False
   | some ei=>qd hg (fun i=>some (i*ei.sz,ei.sz)) parts (oP len (ei.zero.map .val)) fun Φ cells=>z6 tb hg p o ei len cells (Φ∧len*ei.sz≤16777216∧len≤16777216) K
  | _=>False
theorem Ez(z:Array Value)(sz:Nat)(hz:z.size=sz):∀(n:Nat),((Array.range (n*sz)).map (z[· %z.size]!)).toList=(List.replicate n z.toList).flatten
 | 0=>by simp
 | n+1=>by
  have ih:=Ez z sz hz n
  rw[List.replicate_succ',List.flatten_append,←ih]
  apply List.ext_getElem?
  intro i
  simp only[Array.toList_map,Array.toList_range,List.getElem?_map,List.getElem?_append,List.length_map,List.length_range,List.flatten_cons,List.flatten_nil,List.append_nil]
  by_cases hi:i<n*sz
  ·have h2:i< (n+1)*sz:=by rw[Nat.add_mul];omega
   simp[hi,h2]
  ·rw[if_neg hi]
   by_cases h2:i< (n+1)*sz
   ·have h3:i - n*sz<sz:=by rw[Nat.add_mul,Nat.one_mul] at h2;omega
    have h4:i%sz=i - n*sz:=by
     have:i=(i - n*sz)+sz*n:=by rw[Nat.mul_comm sz n];omega
     rw[this,Nat.add_mul_mod_self_left,Nat.mod_eq_of_lt (by omega)]
     rw[Nat.mul_comm sz n];omega
    rw[List.getElem?_range h2]
    simp only[Option.map_some,hz,h4]
    rw[getElem!_pos z _ (by omega)]
    simp[hz,h3]
   ·have h3:¬i - n*sz<sz:=by rw[Nat.add_mul,Nat.one_mul] at h2;omega
    rw[List.getElem?_eq_none (by simp;omega),List.getElem?_eq_none (by simp[hz];omega)]
    rfl
theorem EA{E:Env}{w:World}{zs:List AV}{vs:List Value}(h:aq E w zs vs):∀n,aq E w (oP n zs) (List.replicate n vs).flatten
 | 0=>by simp[oP,aq]
 | n+1=>by
  simp only[oP,List.replicate_succ,List.flatten_cons]
  exact ia h (EA h n)
theorem K6 {tb : TypeId → Option TI} {p len : Nat} {El : TypeId} {ei : TI} {cells : List AV} {Ψ : Prop} {K : KF} (h : z6 tb hg p o ei len cells Ψ K) (bB : Ψ → ∀ (E : Env) (H : List J) (w : World) (al : Operand → Value), HR E w H → (∀ (r : Nat) (e : J), hg r = some e → H[r]? = some e) → (∀ x ∈ aR o.op, ae E w (ev x) (al x)) →
    ∃(cs:Array Value)(T:TypeId)(c:Nat),(execOp al o).run P w= .ok (.value (.slice (some ⟨w.heap.size,0,none⟩) len c)) (w.alloc (.cells cs T))∧len≤c∧c≤maxLen∧c*ei.sz≤cs.size∧∀(i:Nat)(x:AV),cells[i]? =some x→∃u,cs[i]? =some u∧ae E w x u):∃Φ v us,K Φ v us∧bm P o ev hg Φ v us:=by
 unfold z6 at h
 split at h
 ·split at h
  rotate_left
  ·exact h.elim
  rename_i ns gv
  refine rS h fun q=> ?_
  obtain⟨q1,q2,q3,q4⟩:=q
  refine⟨by simpa [Bd.count] using q3,fun E H w al hr hh au=> ?_⟩
  obtain⟨cs,T,c,h1,h2,h3,h4,h5⟩:=bB q1 E H w al hr hh au
  refine⟨cs,T,c,h1,h2,h3,by rw[q4] at h4;exact h4,fun i ys hy=> ?_⟩
  simp only[Bd.at,List.getElem?_map,Option.map_eq_some_iff] at hy
  obtain⟨b,⟨n,hn,rfl⟩,rfl⟩:=hy
  have cT:cells[i]? =some (.val (.int .u8 n)):=by rw[pX gv];simp[hn]
  obtain⟨u,hu,fo⟩:=h5 i _ cT
  have hb:=w6 q2 n (List.mem_of_getElem? hn)
  have lq:u=bv (UInt8.ofNat n.toNat):=by
   rw[bq fo];unfold bv
   congr 1
   simp;omega
  refine⟨[u],rfl,by simp only[aq,ae];exact⟨_,_,rfl,lq,rfl⟩,fun j v hv=> ?_⟩
  cases j with
  | zero=>simp at hv;subst hv;simp only[Bd.sz,Nat.mul_one,Nat.add_zero];exact hu
  | succ j=>simp at hv
 ·rename_i k _ hk
  split at h
  rotate_left
  ·exact h.elim
  rename_i ns gv
  refine rS h fun q=> ?_
  obtain⟨q1,q3,q4⟩:=q
  refine⟨by simpa [Bd.count] using q3,fun E H w al hr hh au=> ?_⟩
  obtain⟨cs,T,c,h1,h2,h3,h4,h5⟩:=bB q1 E H w al hr hh au
  refine⟨cs,T,c,h1,h2,h3,by rw[q4] at h4;exact h4,fun i ys hy=> ?_⟩
  simp only[Bd.at,Option.map_eq_some_iff] at hy
  obtain⟨n,hn,rfl⟩:=hy
  have cT:cells[i]? =some (.val (.int k n)):=by rw[pX gv];simp[hn]
  obtain⟨u,hu,fo⟩:=h5 i _ cT
  refine⟨[u],rfl,by simp only[dy,aq];exact⟨_,_,rfl,fo,rfl⟩,fun j v hv=> ?_⟩
  cases j with
  | zero=>simp at hv;subst hv;simp only[Bd.sz,Nat.mul_one,Nat.add_zero];exact hu
  | succ j=>simp at hv
 ·refine rS h fun q=> ?_
  obtain⟨q1,q3⟩:=q
  refine⟨by simp[Bd.count],fun E H w al hr hh au=> ?_⟩
  obtain⟨cs,T,c,h1,h2,h3,h4,h5⟩:=bB q1 E H w al hr hh au
  refine⟨cs,T,c,h1,h2,h3,h4,fun i ys hy=> ?_⟩
  simp only[Bd.at,Option.map_eq_some_iff] at hy
  obtain⟨i',bP,rfl⟩:=hy
  have ah:i<len:=by have:=(List.getElem?_eq_some_iff.1 bP).1;simpa using this
  rw[List.getElem?_range ah] at bP
  cases bP
  have hle:(i+1)*ei.sz≤len*ei.sz:=Nat.mul_le_mul_right _ ah
  rw[Nat.add_mul,Nat.one_mul] at hle
  have UN:=Nat.le_trans (Nat.mul_le_mul_right ei.sz h2) h4
  rw[js,jr]
  refine⟨(cs.toList.drop (i*ei.sz)).take ei.sz,by simp[Bd.sz];omega,tu (by simp;omega) (fun j x u hx hu=> ?_),fun j u hu=> ?_⟩
  ·rw[List.getElem?_take] at hx hu
   split at hx
   ·rename_i hj
    rw[if_pos hj] at hu
    rw[List.getElem?_drop] at hx hu
    obtain⟨u',jt,fo⟩:=h5 _ _ hx
    have:cs[i*ei.sz+j]? =some u:=by simpa using hu
    rw[this] at jt;cases jt;exact fo
   ·cases hx
  ·rw[List.getElem?_take] at hu
   split at hu
   ·rw[List.getElem?_drop] at hu;simpa [Bd.sz] using hu
   ·cases hu
theorem K7{tb:TypeId→Option TI}(ay:cD P tb){p:Nat}{T:TypeId}{len:Nat}{parts:Array (Nat×Operand)}(ho:o.op= .buildSlice T len parts){K:KF}(h:z7 tb hg p o T len (parts.toList.map fun q=>(q.1,ev q.2)) K):∃Φ v us,K Φ v us∧bm P o ev hg Φ v us:=by
 unfold z7 at h
 split at h
 ·exact h.elim
 rename_i ti bT
 have hT:=(ay T ti bT).u
 split at h
 rotate_left
 ·exact h.elim
 rename_i El hu
 rw[hu] at hT
 have bO:P.underlying T=some (.slice El):=hT
 split at h
 ·exact h.elim
 rename_i ei fX
 have hE:=ay El ei fX
 obtain⟨z,hz,dT⟩:=hE.info
 obtain⟨i,hi,h1,h2,h3⟩:=info_parts hz
 have oQ:z.cells.size=ei.sz:=by have:=hE.oH;rw[←dT] at this;simpa using this
 obtain⟨Φ,cells,h,hl⟩:=zY h
 refine K6 (El:=El) h fun q E H w al hr hh au=> ?_
 obtain⟨q1,q2,q3⟩:=q
 obtain⟨cells',h5,h6⟩:=hl q1 E H w al ((Array.range (len*ei.sz)).map (z.cells[· %z.cells.size]!)) hr hh (by rw[ho] at au;exact au) (by
  rw[Ez z.cells ei.sz oQ,dT];exact EA (nN _) len)
 have hlen:=(eX h6).1
 have ck:cells'.size=len*ei.sz:=by
  have:∀(ps:List (Nat×Value))(c c':Array Value),Instr.fill (fun i=>some (i*ei.sz,ei.sz)) c ps=some c'→c'.size=c.size:=by
   intro ps
   induction ps with
   | nil=>intro c c' h;simp[Instr.fill] at h;subst h;rfl
   | cons x ps ih=>
    intro c c' h
    simp only[Instr.fill] at h
    split at h
    ·cases h
    ·have h8:=ih _ _ h
     rw[h8]
     have:∀(l:List (Value×Nat))(c:Array Value),(l.foldl (fun cs(c,j)=>cs.setIfInBounds (x.1*ei.sz+j) c) c).size=c.size:=by
      intro l;induction l with
      | nil=>intro c;rfl
      | cons y l ih=>intro c;simp only[List.foldl_cons];rw[ih];simp
     rw[←Array.foldl_toList];exact this _ _
  rw[this _ _ _ h5];simp
 have e1:(Instr.buildSlice T len (parts.map fun(i,x)=>(i,al x))).run P w= .ok (.slice (some ⟨w.heap.size,0,none⟩) len len) (w.alloc (.cells cells' El)):=by
  by_cases l5:len*ei.sz=0
  ·have z8:Instr.fill (fun i=>some (i*ei.sz,ei.sz)) (#[]:Array Value) (parts.toList.map fun q=>(q.1,al q.2))=some cells':=by
     have e2:(Array.range (len*ei.sz)).map (z.cells[· %z.cells.size]!)= #[]:=by rw[l5];simp
     rw[←e2];exact h5
   simp[Instr.buildSlice,run_underlying bO,Go.sizeOf,typeInfo,hi,h2,l5,newRow,Array.range_zero']
   rw[z8]
   rfl
  ·have z8:Instr.fill (fun i=>some (i*ei.sz,ei.sz)) ((Array.range (len*ei.sz)).map (z.cells[· %z.cells.size]!)) (parts.map fun(i,x)=>(i,al x)).toList=some cells':=by
     have e3:(parts.map fun(i,x)=>(i,al x)).toList=parts.toList.map fun q=>(q.1,al q.2):=by simp
     rw[e3];exact h5
   exact run_buildSlice w T El len _ cells' i z bO hi h1 (by rw[h2];omega) (by rw[h2];exact l5) (by rw[h2];exact z8)
 refine⟨cells',El,len,?_,Nat.le_refl _,?_,by rw[ck];exact Nat.le_refl _,fun k x hx=> ?_⟩
 ·unfold execOp
  simp only[ho,Sem.run_bind,e1,Result.andThen_ok,Sem.run_pure]
 ·unfold maxLen;omega
 ·obtain⟨u,hu,fo⟩:=(eX h6).2 k x hx
  exact⟨u,by simpa using hu,fo⟩
def Aa(tb:TypeId→Option TI)(hg:Nat→Option J)(p:Nat)(o:Oper)(T:TypeId)(x y:AV)(K:KF):Prop:=match tb T with
 | none=>False
 | some ti=>match ti.u with
  | .slice El=>match tb El with
   | none=>False
   | some ei=>match x with
    | .val (.int _ n)=>match y with
     | .val (.int _ c)=>match ei.u with
      | .int .u8=>mS hg p o n.toNat (.bytes (List.replicate n.toNat 0)) fun Φ v us=>K ((0≤n∧n≤c∧c*ei.bytes≤140737488355328∧0<ei.bytes∧ei.sz=1∧ei.zero=[.int .u8 0])∧Φ) v us
      | .int k=>mS hg p o n.toNat (.row 1 (dy k) 0 (List.replicate n.toNat 0)) fun Φ v us=>K ((0≤n∧n≤c∧c*ei.bytes≤140737488355328∧0<ei.bytes∧ei.sz=1∧ei.zero=[.int k 0])∧Φ) v us
      | _=>mS hg p o n.toNat (.row ei.sz (fun(_:Unit)=>ei.zero.map .val) () (List.replicate n.toNat ())) fun Φ v us=>K ((0≤n∧n≤c∧c*ei.bytes≤140737488355328∧0<ei.bytes)∧Φ) v us
     | _=>False
    | _=>False
  | _=>False
theorem Ab{z:Array Value}{sz n i j:Nat}(hz:z.size=sz)(hi:i<n){u:Value}(hu:z.toList[j]? =some u):(madeCells z (n*sz))[i*sz+j]? =some u:=by
 have hj:j<sz:=by have:=(List.getElem?_eq_some_iff.1 hu).1;simp at this;omega
 have hle:(i+1)*sz≤n*sz:=Nat.mul_le_mul_right _ hi
 rw[Nat.add_mul,Nat.one_mul] at hle
 unfold madeCells
 have h1:i*sz+j<n*sz:=by omega
 have h2:(i*sz+j)%z.size=j:=by rw[hz,Nat.add_comm,Nat.add_mul_mod_self_right,Nat.mod_eq_of_lt hj]
 rw[Array.getElem?_map,Array.getElem?_range,if_pos h1]
 simp only[Option.map_some,h2]
 rw[getElem!_pos z j (by omega)]
 rw[←hu]
 simp[hz,hj]
theorem K8{tb:TypeId→Option TI}(ay:cD P tb){p:Nat}{T:TypeId}{x y:Operand}(ho:o.op= .makeSlice T x y){K:KF}(h:Aa tb hg p o T (ev x) (ev y) K):∃Φ v us,K Φ v us∧bm P o ev hg Φ v us:=by
 unfold Aa at h
 split at h
 ·exact h.elim
 rename_i ti bT
 have hT:=(ay T ti bT).u
 split at h
 rotate_left
 ·exact h.elim
 rename_i El hu
 rw[hu] at hT
 have bO:P.underlying T=some (.slice El):=hT
 split at h
 ·exact h.elim
 rename_i ei fX
 have hE:=ay El ei fX
 obtain⟨z,hz,dT⟩:=hE.info
 obtain⟨i,hi,h1,h2,h3⟩:=info_parts hz
 have oQ:z.cells.size=ei.sz:=by have:=hE.oH;rw[←dT] at this;simpa using this
 split at h
 rotate_left
 ·exact h.elim
 rename_i k1 n hx
 split at h
 rotate_left
 ·exact h.elim
 rename_i k2 c hy
 have run : 0 ≤ n → n ≤ c → c * ei.bytes ≤ 140737488355328 → 0 < ei.bytes → ∀ {E : Env} {w : World} {al : Operand → Value}, (∀ x ∈ aR o.op, ae E w (ev x) (al x)) →
     (execOp al o).run P w= .ok (.value (.slice (some ⟨w.heap.size,0,none⟩) n.toNat c.toNat)) (w.alloc (.cells (madeCells z.cells (c.toNat*ei.sz)) El))∧n.toNat≤c.toNat∧c.toNat≤maxLen:=by
  intro q1 q2 q3 q4 E w al au
  have gw:=au x (by rw[ho];simp[aR])
  have jV:=au y (by rw[ho];simp[aR])
  rw[hx] at gw;rw[hy] at jV
  have hb:c≤c*ei.bytes:=by
   have:c*1≤c*(ei.bytes:Int):=Int.mul_le_mul_of_nonneg_left (by omega) (by omega)
   omega
  have bB:=run_make (P:=P) w T El i z bO hi h1 k1 k2 n c q1 q2 (by rw[h3,Int.mul_comm];omega) (by omega)
  rw[h2] at bB
  refine⟨?_,by omega,by unfold maxLen;omega⟩
  unfold execOp
  simp only[ho,bq gw,bq jV,Sem.run_bind,bB,Result.andThen_ok,Sem.run_pure]
 have tZ:∀{α:Type}{a b:α}{m i:Nat},(List.replicate m a)[i]? =some b→i<m∧b=a:=by
  intro α a b m i h
  rw[List.getElem?_replicate] at h
  split at h
  ·rename_i ah;exact⟨ah,(Option.some.inj h).symm⟩
  ·cases h
 split at h
 ·refine rS h fun q=> ?_
  obtain⟨q1,q2,q3,q4,q5,q6⟩:=q
  refine⟨by simp[Bd.count],fun E H w al hr hh au=> ?_⟩
  obtain⟨g1,g2,g3⟩:=run q1 q2 q3 q4 au
  refine⟨_,_,_,g1,g2,g3,by rw[size_madeCells,q5];exact Nat.le_refl _,fun i' ys iA=> ?_⟩
  simp only[Bd.at,Option.map_eq_some_iff] at iA
  obtain⟨b,hb,rfl⟩:=iA
  obtain⟨ah,rfl⟩:=tZ hb
  refine⟨[bv 0],rfl,by simp only[aq,ae];exact⟨_,_,rfl,rfl,rfl⟩,fun j u hu=> ?_⟩
  have:=Ab (n:=c.toNat) (i:=i') (j:=j) (u:=u) oQ (by omega) (by rw[dT,q6];exact hu)
  rw[q5] at this⊢
  exact this
 ·rename_i k _ hk
  refine rS h fun q=> ?_
  obtain⟨q1,q2,q3,q4,q5,q6⟩:=q
  refine⟨by simp[Bd.count],fun E H w al hr hh au=> ?_⟩
  obtain⟨g1,g2,g3⟩:=run q1 q2 q3 q4 au
  refine⟨_,_,_,g1,g2,g3,by rw[size_madeCells,q5];exact Nat.le_refl _,fun i' ys iA=> ?_⟩
  simp only[Bd.at,Option.map_eq_some_iff] at iA
  obtain⟨b,hb,rfl⟩:=iA
  obtain⟨ah,rfl⟩:=tZ hb
  refine⟨[.int k 0],rfl,by simp only[dy,aq,ae];exact⟨_,_,rfl,rfl,rfl⟩,fun j u hu=> ?_⟩
  have:=Ab (n:=c.toNat) (i:=i') (j:=j) (u:=u) oQ (by omega) (by rw[dT,q6];exact hu)
  rw[q5] at this⊢
  exact this
 ·refine rS h fun q=> ?_
  obtain⟨q1,q2,q3,q4⟩:=q
  refine⟨by simp[Bd.count],fun E H w al hr hh au=> ?_⟩
  obtain⟨g1,g2,g3⟩:=run q1 q2 q3 q4 au
  refine⟨_,_,_,g1,g2,g3,by rw[size_madeCells];exact Nat.le_refl _,fun i' ys iA=> ?_⟩
  simp only[Bd.at,Option.map_eq_some_iff] at iA
  obtain⟨b,hb,rfl⟩:=iA
  obtain⟨ah,rfl⟩:=tZ hb
  refine⟨ei.zero,hE.oH,nN _,fun j u hu=> ?_⟩
  exact Ab (n:=c.toNat) (i:=i') (j:=j) (u:=u) oQ (by omega) (by rw[dT];exact hu)
theorem EB{mx:Bool}{x y:Operand}{ts:Array TypeId}(ho:o.op= .call {callee:= .builtin (if mx then .max else .min),args:= #[x,y],argTypes:=ts}){K:KF}(h:wT mx (ev x) (ev y) K):∃Φ v us,K Φ v us∧bm P o ev hg Φ v us:=by
 unfold wT at h
 split at h
 rotate_left
 ·exact h.elim
 rename_i k a hx
 split at h
 rotate_left
 ·exact h.elim
 rename_i k' b hy
 refine⟨_,_,_,h,bm.pure fun p E H w al hr hh au=> ?_⟩
 have gw:=au x (by rw[ho];simp[aR])
 have jV:=au y (by rw[ho];simp[aR])
 rw[hx] at gw;rw[hy] at jV
 refine⟨_,?_,by rw[ae]⟩
 unfold execOp
 cases mx
 ·simp only[ho,Bool.false_eq_true,if_false,resolve,invoke,builtin,Sem.run_bind,Sem.run_pure,Result.andThen_ok,List.map_toArray,List.map_cons,List.map_nil,bq gw,bq jV]
  have e:(if b<a then b else a)=min a b:=by simp only[Int.min_def];split<;>split<;>omega
  simp[Builtin.min_,Builtin.min2,e]
 ·simp only[ho,if_true,resolve,invoke,builtin,Sem.run_bind,Sem.run_pure,Result.andThen_ok,List.map_toArray,List.map_cons,List.map_nil,bq gw,bq jV]
  have e:(if b>a then b else a)=max a b:=by simp only[Int.max_def];split<;>split<;>omega
  simp[Builtin.max_,Builtin.max2,e]
end

section
variable {P:Program} {o:Oper} {ev:Operand→AV} {hg:Nat→Option J}
theorem Ac{E:Env}{w:World}{z:Nat}{l:List UInt8}{v:Value}(h:ae E w (.bs z l) v):BS w v l:=by
 rw[ae] at h
 obtain⟨a,n,c,rfl,rfl,h1,h2,h3,h4⟩:=h
 refine⟨a,_,c,rfl,by simp,h1,h2,h3,fun ad had i u hu=> ?_⟩
 simp only[df,List.getElem?_map,Option.map_eq_some_iff] at hu
 obtain⟨x,hx,rfl⟩:=hu
 obtain⟨b,o,rfl,_,hc⟩:=h4 i x hx
 cases had
 rw[Addr.add_lit];exact hc
theorem Ad{E:Env}{w:World}{H:List J}(hr:HR E w H){r:Nat}{e:J}(he:H[r]? =some e){ver off n:Nat}{l:List UInt8}(hb:e.bd= .bytes l)(gu:ver=e.ver)(hle:off+n≤l.length){v:Value}(h:ae E w (.own r ver 1 off n) v):BS w v ((l.drop off).take n):=by
 rw[ae] at h
 obtain⟨a,c,rfl,h1,h2,h3,h4⟩:=h.2 (gu.trans (hr.ver r e he).symm)
 refine⟨a,n,c,rfl,by simp;omega,h1,h2,h3,fun ad had i u hu=> ?_⟩
 simp only[df,List.getElem?_map,Option.map_eq_some_iff,List.getElem?_take,List.getElem?_drop] at hu
 obtain⟨x,hx,rfl⟩:=hu
 split at hx
 rotate_left
 ·cases hx
 rename_i hi
 obtain⟨_,rfl,_⟩:=h4.resolve_left (by omega)
 cases had
 obtain⟨cs,k1,k2,k3⟩:=hr.cells (i:=off+i) he (ys:=[.val (bv x)]) (by rw[hb];simp[Bd.at,hx])
 rw[hb] at k3
 rw[Addr.add_lit,Nat.mul_one]
 have:cs[0]? =some (bv x):=by
  simp only[aq,ae] at k2
  obtain⟨u,vs,rfl,rfl,rfl⟩:=k2
  rfl
 have:=k3 0 _ this
 simpa [Bd.sz] using this
theorem EC{E:Env}{w:World}{H:List J}(hr:HR E w H){r v0:Nat}{ls:List (List UInt8)}(he:H[r]? =some ⟨v0,.az ls⟩){ver i off n:Nat}(hi:i<ls.length)(gu:ver=v0)(hle:off+n≤(ls.getD i []).length){v:Value}(h:ae E w (.pl r ver i off n) v):BS w v (((ls.getD i []).drop off).take n):=by
 obtain⟨a,c,rfl,h1,h2,h3,h4⟩:=hr.wL he (l:=ls.getD i []) (by simp[List.getD,hi]) hle gu h
 refine⟨a,n,c,rfl,by rw[kv,List.length_take,List.length_drop];omega,h1,h2,h3,fun ad had j u hu=> ?_⟩
 simp only[df,List.getElem?_map,Option.map_eq_some_iff] at hu
 obtain⟨x,hx,rfl⟩:=hu
 obtain⟨b,_,rfl,hc⟩:=h4 j x hx
 cases had
 rw[Addr.add_lit];exact hc
theorem K9{E:Env}{w:World}{H:List J}(hr:HR E w H){r:Nat}{e:J}(he:H[r]? =some e){ver off n:Nat}{cells:List AV}{ns:List Int}(hb:e.bd= .obj cells)(gu:ver=e.ver)(hle:off+n≤cells.length)(gv:dw (dc cells off) n=ns.map fun m=> .val (.int .u8 m))(cq:qf ns){v:Value}(h:ae E w (.own r ver 1 off n) v):BS w v (ns.map fun m=>UInt8.ofNat m.toNat):=by
 rw[ae] at h
 obtain⟨a,c,rfl,h1,h2,h3,h4⟩:=h.2 (gu.trans (hr.ver r e he).symm)
 have hlen:ns.length=n:=by
  have:=congrArg List.length gv
  rw[js,jr,List.length_take,List.length_drop,List.length_map] at this
  omega
 refine⟨a,n,c,rfl,by rw[kv,List.length_map,hlen,Nat.mul_one],h1,h2,h3,fun ad had i u hu=> ?_⟩
 simp only[df,List.getElem?_map,Option.map_eq_some_iff] at hu
 obtain⟨x,⟨m,hm,rfl⟩,rfl⟩:=hu
 have hi:=(List.getElem?_eq_some_iff.1 hm).1
 obtain⟨_,rfl,_⟩:=h4.resolve_left (by clear h4;omega)
 clear h4
 cases had
 obtain⟨cs,k1,k2,k3⟩:=hr.cells (i:=0) he (ys:=cells) (by rw[hb];rfl)
 have cT:cells[off+i]? =some (.val (.int .u8 m)):=by
  have h5:(dw (dc cells off) n)[i]? =some (.val (.int .u8 m)):=by rw[gv,List.getElem?_map,hm];rfl
  rw[js,jr,List.getElem?_take] at h5
  split at h5
  ·rwa [List.getElem?_drop] at h5
  ·cases h5
 obtain⟨u,hu,fo⟩:=(eX k2).2 (off+i) _ cT
 have hq:=bq fo
 subst hq
 have UO:=w6 cq m (List.mem_of_getElem? hm)
 have La:bv (UInt8.ofNat m.toNat)= .int .u8 m:=by
  unfold bv
  rw[UInt8.toNat_ofNat_of_lt' (by show m.toNat<256;omega)]
  congr 1
  omega
 rw[Addr.add_lit,Nat.mul_one,La]
 have:=k3 (off+i) _ hu
 rwa [Nat.zero_mul,Nat.zero_add] at this
def ua(hg:Nat→Option J)(x:AV)(K:Prop→List UInt8→Prop):Prop:=match x with
 | .bs _ l=>K True l
 | .val (.slice none 0 0)=>K True []
 | .own r ver sz off n=>match hg r with
  | none=>False
  | some e=>match e.bd with
   | .bytes l=>K (ver=e.ver∧sz=1∧off+n≤l.length) ((l.drop off).take n)
   | .obj cells=>match mM .u8 (dw (dc cells off) n) with
    | some ns=>K (ver=e.ver∧sz=1∧off+n≤cells.length∧qf ns) (ns.map fun n=>UInt8.ofNat n.toNat)
    | none=>False
   | _=>False
 | .pl r ver i off n=>match hg r with
  | none=>False
  | some e=>match e.bd with
   | .az ls=>K (ver=e.ver∧i<ls.length∧off+n≤(ls.getD i []).length) (((ls.getD i []).drop off).take n)
   | _=>False
 | _=>False
theorem Ae{x:AV}{K:Prop→List UInt8→Prop}(h:ua hg x K):∃Ψ l,K Ψ l∧(Ψ→∀(E:Env)(H:List J)(w:World)(v:Value),HR E w H→(∀(r:Nat)(e:J),hg r=some e→H[r]? =some e)→ae E w x v→BS w v l):=by
 unfold ua at h
 split at h
 ·exact⟨_,_,h,fun _ E H w v hr hh hv=>Ac hv⟩
 ·exact⟨_,_,h,fun _ E H w v hr hh hv=>by rw[bq hv];exact BS.nil w⟩
 ·split at h
  ·exact h.elim
  rename_i e he
  split at h
  ·rename_i l hb
   exact⟨_,_,h,fun p E H w v hr hh hv=>Ad hr (hh _ e he) hb p.1 p.2.2 (by rw[p.2.1] at hv;exact hv)⟩
  ·rename_i cells hb
   split at h
   rotate_left
   ·exact h.elim
   rename_i ns gv
   exact⟨_,_,h,fun p E H w v hr hh hv=>K9 hr (hh _ e he) hb p.1 p.2.2.1 (pX gv) p.2.2.2 (by rw[p.2.1] at hv;exact hv)⟩
  ·exact h.elim
 ·split at h
  ·exact h.elim
  rename_i e he
  split at h
  rotate_left
  ·exact h.elim
  rename_i ls hb
  exact⟨_,_,h,fun p E H w v hr hh hv=>EC hr (v0:=e.ver) (ls:=ls) (by rw[hh _ e he,←hb]) p.2.1 p.1 p.2.2 hv⟩
 ·exact h.elim
theorem Out.Af{E:Env}{w:World}{H:List J}{r:Nat}{e:J}(hr:HR E w H)(he:H[r]? =some e):Out E E w w H [(r,e)]:=by
 have hs:aM H [(r,e)]=H:=by
  simp only[aM,bK]
  apply List.ext_getElem?
  intro i
  rw[List.getElem?_set]
  split
  ·rename_i h;subst h
   split
   ·exact he.symm
   ·rename_i h;exact absurd (List.getElem?_eq_some_iff.1 he).1 h
  ·rfl
 have O:=Out.same hr
 exact⟨O.ext,by rw[hs];exact hr,rfl,rfl,rfl,Nat.le_refl _,O.aC,O.grow,fun _ _ _=>rfl,fun r' e' b h hl=>(O.rows r' e' b (by rw[hs] at h;exact h) hl).imp id fun⟨r0,e0,h1,h2,h3⟩=>⟨r0,e0,h1,h2,h3.imp id fun q=>by cases q⟩⟩
theorem Out.splice {E : Env} {w : World} {H : List J} (hr : HR E w H) {r : Nat} {e : J} (he : H[r]? = some e) {l m : List UInt8} (hb : e.bd = .bytes l) (br : ¬ E.abs r) {off : Nat} (jU : off + m.length ≤ l.length) :
    Out E E w (w.setCells (E.ρ r) off (df m)) H [(r,⟨e.ver,.bytes (l.take off++(m++l.drop (off+m.length)))⟩)]∧
    (∀j,j<m.length→(w.cell? ⟨E.ρ r,off+j,none⟩).isSome=true)∧(∀j,j<m.length→w.frozen? ⟨E.ρ r,off+j,none⟩=false):=by
 have hl:e.bd.live=true:=by rw[hb];rfl
 obtain⟨cur,T,lo,hi,h1,h2,h3,h4⟩:=(hr.bS r e he ⟨hl,br⟩).aQ (by rw[hb];rfl)
 rw[hb] at h3 h4
 simp only[Bd.count,Bd.sz,Nat.mul_one] at h3 h4
 obtain⟨fp,hs⟩:=rL (E.ρ r) (df m) off w
 have et:=tI w (E.ρ r) T (lo,hi) (df m) off cur h1 (by simp;omega)
 have iz:E.set r (E.ρ r) e.ver=E:=Env.wJ E rfl (hr.ver r e he).symm br
 have de:cur.toList.length=cur.size:=by simp
 refine⟨?_,fun j hj=>by rw[cell_of_row w _ _ cur T (lo,hi) h1];simp;omega,fun j hj=>by simp[World.frozen?,h1];intro h;rcases h2 with h' | h'<;>omega⟩
 have:=Out.one (w':=w.setCells (E.ρ r) off (df m)) (bd':= .bytes (l.take off++(m++l.drop (off+m.length)))) (b:=E.ρ r) (v':=e.ver) hr he rfl (.inl ⟨rfl,rfl,br⟩) (.inl ⟨rfl,hl,br⟩) fp.os fp.tape fp.output (by omega) (fun k hk aG=>fp.block k hk aG) ?_ ?_
 ·rw[iz] at this;exact this
 ·intro rM T2 zH h6
  rw[h1] at h6
  cases h6
  exact⟨_,_,_,et,by simp;omega⟩
 ·intro X
  rw[iz] at X⊢
  refine⟨fun _=>⟨_,_,_,_,et,?_,?_,?_⟩,fun _ _ _ e=>by cases e⟩
  ·rcases h2 with h | h
   ·exact .inl h
   ·refine .inr ?_
    simp only[List.size_toArray,List.length_append,List.length_take,List.length_drop,Array.length_toList,kv]
    omega
  ·simp only[Bd.count,Bd.sz,List.size_toArray,List.length_append,List.length_take,List.length_drop,Array.length_toList,kv]
   omega
  ·intro i ys hy
   simp only[Bd.at,Option.map_eq_some_iff] at hy
   obtain⟨b,gI,rfl⟩:=hy
   refine⟨[bv b],rfl,by simp only[aq,ae];exact⟨_,_,rfl,rfl,rfl⟩,fun j u hu=> ?_⟩
   cases j with
   | succ j=>simp at hu
   | zero=>
    simp only[List.getElem?_cons_zero,Option.some.injEq] at hu
    subst hu
    simp only[Bd.sz,Nat.mul_one,Nat.add_zero,List.getElem?_toArray]
    have old:∀{k:Nat}{x:UInt8},l[k]? =some x→cur.toList[k]? =some (bv x):=by
     intro k x hx
     obtain⟨cs,k1,k2,k3⟩:=h4 k [.val (bv x)] (by simp[Bd.at,hx])
     simp only[aq,ae] at k2
     obtain⟨u,vs,rfl,rfl,rfl⟩:=k2
     have:=k3 0 _ rfl
     simpa using this
    simp only[List.getElem?_append,List.getElem?_take,List.getElem?_drop,List.length_take,List.length_append,de,kv] at gI⊢
    by_cases q1:i<off
    ·have a1:i<min off l.length:=by omega
     have a2:i<min off cur.size:=by omega
     have a3:i<min off cur.size+m.length:=by omega
     simp only[a1,q1,if_true] at gI
     simp only[a2,a3,q1,if_true]
     exact old gI
    ·have a1:¬i<min off l.length:=by omega
     have a2:¬i<min off cur.size:=by omega
     have a4:min off l.length=off:=by omega
     have a5:min off cur.size=off:=by omega
     by_cases q2:i<off+m.length
     ·have a3:i<min off cur.size+m.length:=by omega
      have a6:i - min off l.length<m.length:=by omega
      simp only[a1,a6,if_true,if_false] at gI
      simp only[a2,a3,if_true,if_false]
      rw[a4] at gI;rw[a5]
      simp[df,gI]
     ·have a3:¬i<min off cur.size+m.length:=by omega
      have a6:¬i - min off l.length<m.length:=by omega
      simp only[a1,a6,if_false] at gI
      simp only[a3,if_false]
      rw[a4] at gI;rw[a5]
      have e1:off+m.length+(i - off - m.length)=i:=by omega
      have e2:off+m.length+(i - (off+m.length))=i:=by omega
      rw[e1] at gI
      rw[e2];exact old gI
def Ag(tb:TypeId→Option TI)(hg:Nat→Option J)(T:TypeId)(x y:AV)(K:KF):Prop:=match tb T with
 | none=>False
 | some ti=>match ti.u with
  | .slice El=>match tb El with
   | none=>False
   | some ei=>match x with
    | .own r ver sz off n=>match hg r with
     | none=>False
     | some e=>match e.bd with
      | .bytes l=>ua hg y fun Ψ m=>K ((ver=e.ver∧sz=1∧off+n≤l.length∧ei.sz=1)∧Ψ) (.val (.int .i64 (min n m.length:Nat))) [(r,⟨e.ver,.bytes (l.take off++(m.take (min n m.length)++l.drop (off+min n m.length)))⟩)]
      | .obj cells=>ua hg y fun Ψ m=>K ((ver=e.ver∧sz=1∧off+n≤cells.length∧ei.sz=1∧0<min n m.length)∧Ψ) (.val (.int .i64 (min n m.length:Nat))) [(r,⟨e.ver,.obj (eY cells off ((m.take (min n m.length)).map fun b=> .val (bv b)))⟩)]
      | _=>False
    | _=>False
  | _=>False
theorem Lb{w:World}{b:Nat}{cur:Array Value}{T}{lo hi k:Nat}(h:w.heap[b]? =some (.cells cur T (lo,hi)))(g:hi=lo∨cur.size≤lo)(hk:k<cur.size):w.frozen? ⟨b,k,none⟩=false:=by
 simp[World.frozen?,h];intro h;rcases g with h' | h'<;>omega
theorem Lc{tb:TypeId→Option TI}(ay:cD P tb){T Ts:TypeId}{x y:Operand}(ho:o.op= .call {callee:= .builtin .copy,args:= #[x,y],argTypes:= #[T,Ts]}){K:KF}(h:Ag tb hg T (ev x) (ev y) K):∃Φ v us,K Φ v us∧bm P o ev hg Φ v us:=by
 unfold Ag at h
 split at h
 ·exact h.elim
 rename_i ti bT
 have hT:=(ay T ti bT).u
 split at h
 rotate_left
 ·exact h.elim
 rename_i El hu
 rw[hu] at hT
 have bO:P.underlying T=some (.slice El):=hT
 split at h
 ·exact h.elim
 rename_i ei fX
 have hE:=ay El ei fX
 obtain⟨z,hz,dT⟩:=hE.info
 obtain⟨inf,hi,i1,i2,i3⟩:=info_parts hz
 split at h
 rotate_left
 ·exact h.elim
 rename_i r ver sz off n hx
 split at h
 ·exact h.elim
 rename_i e he
 split at h
 rotate_left
 ·rename_i cells hb
  obtain⟨Ψ,m,h,hm⟩:=Ae h
  refine⟨_,_,_,h,fun p E H w al hr hh au=> ?_⟩
  obtain⟨⟨p1,p2,p3,p4,p5⟩,Ah⟩:=p
  subst p2
  have gw:=au x (by rw[ho];simp[aR])
  have jV:=au y (by rw[ho];simp[aR])
  rw[hx,ae] at gw
  have ig:=hh r e he
  obtain⟨a,c,hv,h1,h2,h3,h4⟩:=gw.2 (p1.trans (hr.ver r e ig).symm)
  obtain⟨sa,sn,sc,Ai,dR,hle,_,rT,cT⟩:=hm Ah E H w _ hr hh jV
  have Aj:sn=m.length:=by simpa using dR.symm
  have mP:(P.info? El).map (·.size)=some 1:=by rw[hi];simp[i2,p4]
  have mT:Nat.min sn n=min n m.length:=by rw[Aj];exact Nat.min_comm _ _
  have bB:∀{v':Value}{w':World},(Builtin.copy_ #[T,Ts] o.type #[.slice a n c,.slice sa sn sc]).run P w= .ok v' w'→(execOp al o).run P w= .ok (.value v') w':=by
   intro v' w' hc
   unfold execOp
   simp only[ho,resolve,invoke,builtin,Sem.run_bind,Sem.run_pure,Result.andThen_ok,List.map_toArray,List.map_cons,List.map_nil,hv,Ai,hc]
  have fW:c≠0:=by
   clear h4 cT hm
   have:=Nat.min_le_left n m.length
   omega
  obtain⟨br,ha,cur,Tc,fz,hblk,cA⟩:=h4.resolve_left fW
  clear h4
  have hlen:(m.take (min n m.length)).length=min n m.length:=by simp
  have cK:e.bd.at 0=some cells:=by rw[hb];rfl
  have ck:e.bd.sz=cells.length:=by rw[hb];rfl
  have fY:((m.take (min n m.length)).map fun b=>AV.val (bv b)).length=min n m.length:=by rw[List.length_map,hlen]
  have c8:(eY cells off ((m.take (min n m.length)).map fun b=>AV.val (bv b))).length=cells.length:=by
   unfold eY
   rw[js,jr,List.length_append,List.length_append,List.length_take,List.length_drop,fY]
   omega
  have Ld:∀(l:List UInt8),aq E w (l.map fun b=>AV.val (bv b)) (df l):=by
   intro l
   induction l with
   | nil=>simp only[List.map_nil,aq];rfl
   | cons b l ih=>simp only[List.map_cons,aq,ae];exact⟨_,df l,rfl,rfl,ih⟩
  have O:=Out.store (i:=0) (j:=off) (new:=(m.take (min n m.length)).map fun b=>AV.val (bv b)) (vs:=df (m.take (min n m.length))) hr ig cK (bd':= .obj (eY cells off ((m.take (min n m.length)).map fun b=>AV.val (bv b)))) (by rw[ck];exact c8) (by rw[hb];rfl) (fun i' fE hy=>by
   left
   simp only[Bd.at] at hy
   split at hy
   ·exact⟨by assumption,(Option.some.inj hy).symm⟩
   ·cases hy) (Ld _) (by rw[fY,ck];omega) rfl
  rw[ck,Nat.zero_mul,Nat.zero_add] at O
  have b9:bN E r e:=⟨by rw[hb];rfl,br⟩
  obtain⟨cW,T',kq,bP,g1,g2,g3,_⟩:=(hr.bS r e ig b9).aQ (by rw[hb];rfl)
  rw[hb] at g3
  simp only[Bd.count,Bd.sz,Nat.one_mul] at g3
  have ah:∀j,j<min n m.length→off+j<cW.size:=fun j hj=>Nat.lt_of_lt_of_le (Nat.add_lt_add_left (Nat.lt_of_lt_of_le hj (Nat.min_le_left ..)) off) (Nat.le_trans p3 g3)
  have tX:∀j,j<min n m.length→(w.cell? ⟨E.ρ r,off+j,none⟩).isSome=true:=fun j hj=>by
   rw[cell_of_row w _ _ cW T' (kq,bP) g1]
   have:=ah j hj
   simp[this]
  have tY:∀j,j<min n m.length→w.frozen? ⟨E.ρ r,off+j,none⟩=false:=fun j hj=>Lb g1 g2 (ah j hj)
  cases sa with
  | none => have h8 := rT rfl
            have h9:=Nat.min_le_right n m.length
            omega
  | some ad=>
   have iW:=run_copy_cells (P:=P) w T Ts o.type El (E.ρ r) off n c ad sn sc (df (m.take (min n m.length))) bO mP (by rw[kv,hlen,mT]) (fun j v hj=>by
    have:=cT ad rfl j v (by
     rw[←Ak,List.getElem?_take] at hj
     split at hj
     ·exact hj
     ·cases hj)
    exact this) (by rw[kv,hlen];exact tX) (by rw[kv,hlen];exact tY) (Al _)
   rw[ha,Nat.mul_one] at bB
   rw[kv,hlen] at iW
   exact⟨_,_,E,.inl (bB iW),by rw[ae];rfl,O⟩
 ·exact h.elim
 rename_i l hb
 obtain⟨Ψ,m,h,hm⟩:=Ae h
 refine⟨_,_,_,h,fun p E H w al hr hh au=> ?_⟩
 obtain⟨⟨p1,p2,p3,p4⟩,Ah⟩:=p
 subst p2
 have gw:=au x (by rw[ho];simp[aR])
 have jV:=au y (by rw[ho];simp[aR])
 rw[hx,ae] at gw
 have ig:=hh r e he
 obtain⟨a,c,hv,h1,h2,h3,h4⟩:=gw.2 (p1.trans (hr.ver r e ig).symm)
 obtain⟨sa,sn,sc,Ai,dR,hle,_,rT,cT⟩:=hm Ah E H w _ hr hh jV
 have Aj:sn=m.length:=by simpa using dR.symm
 have mP:(P.info? El).map (·.size)=some 1:=by rw[hi];simp[i2,p4]
 have mT:Nat.min sn n=min n m.length:=by rw[Aj];exact Nat.min_comm _ _
 have bB:∀{v':Value}{w':World},(Builtin.copy_ #[T,Ts] o.type #[.slice a n c,.slice sa sn sc]).run P w= .ok v' w'→(execOp al o).run P w= .ok (.value v') w':=by
  intro v' w' hc
  unfold execOp
  simp only[ho,resolve,invoke,builtin,Sem.run_bind,Sem.run_pure,Result.andThen_ok,List.map_toArray,List.map_cons,List.map_nil,hv,Ai,hc]
 by_cases hk:min n m.length=0
 ·have hc:=run_copy_none (P:=P) w T Ts o.type El a sa n c sn sc bO mP (by rw[mT];exact hk)
  refine⟨_,w,E,.inl (bB hc),by rw[ae,hk];rfl,?_⟩
  have e1:(⟨e.ver,.bytes (l.take off++(m.take (min n m.length)++l.drop (off+min n m.length)))⟩:J)=e:=by
   cases e with
   | mk ver bd=>
    simp only at hb
    rw[hk,hb];simp
  rw[e1]
  exact Out.Af hr ig
 ·obtain⟨br,ha,cur,Tc,fz,hblk,cA⟩:=h4.resolve_left (by omega)
  have hlen:(m.take (min n m.length)).length=min n m.length:=by simp
  obtain⟨O,eL,iR⟩:=Out.splice (m:=m.take (min n m.length)) hr ig hb br (off:=off) (by rw[hlen];omega)
  rw[hlen] at O eL iR
  cases sa with
  | none => have := rT rfl
            omega
  | some ad=>
   have iW:=run_copy_cells (P:=P) w T Ts o.type El (E.ρ r) off n c ad sn sc (df (m.take (min n m.length))) bO mP (by rw[kv,hlen,mT]) (fun j v hj=>by
    have:=cT ad rfl j v (by
     rw[←Ak,List.getElem?_take] at hj
     split at hj
     ·exact hj
     ·cases hj)
    exact this) (by rw[kv,hlen];exact eL) (by rw[kv,hlen];exact iR) (Al _)
   rw[ha,Nat.mul_one] at bB
   rw[kv,hlen] at iW
   exact⟨_,_,E,.inl (bB iW),by rw[ae];rfl,O⟩
theorem Out.fill {E : Env} {w : World} {H : List J} (hr : HR E w H) {r : Nat} {e : J} (he : H[r]? = some e) (hc : e.bd.jq = true) (br : ¬ E.abs r) {off n : Nat} {vs : List Value} (zz : vs.length = n * e.bd.sz) (jU : off + n ≤ e.bd.count) {bd' : Bd} (ck : bd'.sz = e.bd.sz) (ib : bd'.count = e.bd.count) (fY : bd'.oF = false)
    (cG:∀i' fE,bd'.at i'=some fE→(off≤i'∧i'<off+n∧∃us,us.length=e.bd.sz∧(∀E w,aq E w fE us)∧∀j u,us[j]? =some u→vs[(i' - off)*e.bd.sz+j]? =some u)∨((i'<off∨off+n≤i')∧e.bd.at i'=some fE)):
    Out E E w (w.setCells (E.ρ r) (off*e.bd.sz) vs) H [(r,⟨e.ver,bd'⟩)]∧
    (∀j,j<vs.length→(w.cell? ⟨E.ρ r,off*e.bd.sz+j,none⟩).isSome=true)∧(∀j,j<vs.length→w.frozen? ⟨E.ρ r,off*e.bd.sz+j,none⟩=false):=by
 have hl:=Bd.rC hc
 obtain⟨cur,T,lo,hi,h1,h2,h3,h4⟩:=(hr.bS r e he ⟨hl,br⟩).aQ hc
 obtain⟨fp,hs⟩:=rL (E.ρ r) vs (off*e.bd.sz) w
 have tH:off*e.bd.sz+vs.length≤cur.size:=by
  have h5:(off+n)*e.bd.sz≤e.bd.count*e.bd.sz:=Nat.mul_le_mul_right _ jU
  rw[Nat.add_mul] at h5
  omega
 have et:=tI w (E.ρ r) T (lo,hi) vs (off*e.bd.sz) cur h1 tH
 have iz:E.set r (E.ρ r) e.ver=E:=Env.wJ E rfl (hr.ver r e he).symm br
 have de:cur.toList.length=cur.size:=by simp
 refine⟨?_,fun j hj=>by rw[cell_of_row w _ _ cur T (lo,hi) h1];simp;omega,fun j hj=>by simp[World.frozen?,h1];intro h;rcases h2 with h' | h'<;>omega⟩
 have:=Out.one (w':=w.setCells (E.ρ r) (off*e.bd.sz) vs) (bd':=bd') (b:=E.ρ r) (v':=e.ver) hr he (Bd.pU fY) (.inl ⟨rfl,rfl,br⟩) (.inl ⟨rfl,hl,br⟩) fp.os fp.tape fp.output (by omega) (fun k hk aG=>fp.block k hk aG) ?_ ?_
 ·rw[iz] at this;exact this
 ·intro rM T2 zH h6
  rw[h1] at h6
  cases h6
  exact⟨_,_,_,et,by simp;omega⟩
 ·intro X
  rw[iz] at X⊢
  refine⟨fun _=>⟨_,_,_,_,et,?_,?_,?_⟩,fun _ _ _ e=>absurd e (Bd.pT fY)⟩
  ·rcases h2 with h | h
   ·exact .inl h
   ·refine .inr ?_
    simp only[List.size_toArray,List.length_append,List.length_take,List.length_drop,Array.length_toList]
    omega
  ·rw[ck,ib]
   simp only[List.size_toArray,List.length_append,List.length_take,List.length_drop,Array.length_toList]
   omega
  ·intro i' fE iA
   rw[ck]
   rcases cG i' fE iA with⟨EE,UP,us,u1,u2,u3⟩ | ⟨aG,tJ⟩
   ·refine⟨us,u1,u2 _ _,fun k u hu=> ?_⟩
    have hk:k<e.bd.sz:=by have:=(List.getElem?_eq_some_iff.1 hu).1;omega
    have hv:=u3 k u hu
    have dS:=(List.getElem?_eq_some_iff.1 hv).1
    have kP:i'*e.bd.sz=off*e.bd.sz+(i' - off)*e.bd.sz:=by rw[←Nat.add_mul];congr 1;omega
    simp only[List.getElem?_toArray,List.getElem?_append,List.getElem?_take,List.getElem?_drop,List.length_take,List.length_append,Array.length_toList]
    have a2:¬i'*e.bd.sz+k<min (off*e.bd.sz) cur.size:=by omega
    have a3:i'*e.bd.sz+k<min (off*e.bd.sz) cur.size+vs.length:=by omega
    have a6:i'*e.bd.sz+k - min (off*e.bd.sz) cur.size=(i' - off)*e.bd.sz+k:=by omega
    simp only[a2,a3,if_true,if_false,a6]
    exact hv
   ·obtain⟨cs,h5,h6,h7⟩:=h4 i' fE tJ
    refine⟨cs,h5,fV X _ _ h6,fun k u hu=> ?_⟩
    have hk:k<e.bd.sz:=by have:=(List.getElem?_eq_some_iff.1 hu).1;omega
    have kJ:=Bd.nK tJ
    have hb:i'*e.bd.sz+k<cur.size:=by
     have h5:(i'+1)*e.bd.sz≤e.bd.count*e.bd.sz:=Nat.mul_le_mul_right _ kJ
     rw[Nat.add_mul,Nat.one_mul] at h5
     omega
    have nM:i'*e.bd.sz+k<off*e.bd.sz∨off*e.bd.sz+vs.length≤i'*e.bd.sz+k:=by
     rcases aG with h | h
     ·left
      have h5:(i'+1)*e.bd.sz≤off*e.bd.sz:=Nat.mul_le_mul_right _ h
      rw[Nat.add_mul,Nat.one_mul] at h5
      omega
     ·right
      have h5:(off+n)*e.bd.sz≤i'*e.bd.sz:=Nat.mul_le_mul_right _ h
      rw[Nat.add_mul] at h5
      omega
    have:=h7 k u hu
    simp only[List.getElem?_toArray,List.getElem?_append,List.getElem?_take,List.getElem?_drop,List.length_take,List.length_append,Array.length_toList]
    rcases nM with h | h
    ·have a2:i'*e.bd.sz+k<min (off*e.bd.sz) cur.size:=by omega
     have a3:i'*e.bd.sz+k<min (off*e.bd.sz) cur.size+vs.length:=by omega
     simp only[a2,a3,h,if_true]
     simpa using this
    ·have a3:¬i'*e.bd.sz+k<min (off*e.bd.sz) cur.size+vs.length:=by omega
     simp only[a3,if_false]
     have e2:off*e.bd.sz+vs.length+(i'*e.bd.sz+k - (min (off*e.bd.sz) cur.size+vs.length))=i'*e.bd.sz+k:=by omega
     rw[e2]
     simpa using this
theorem Le(z:Array Value)(n:Nat){q j:Nat}{u:Value}(hq:q<n)(hu:z.toList[j]? =some u):(Builtin.zeroCells z n).toList[q*z.size+j]? =some u:=by
 obtain⟨hj,hu⟩:=List.getElem?_eq_some_iff.1 hu
 simp only[Array.length_toList] at hj
 have ah:q*z.size+j<n*z.size:=by
  have:(q+1)*z.size≤n*z.size:=Nat.mul_le_mul_right _ hq
  rw[Nat.add_mul,Nat.one_mul] at this;omega
 have hm:(q*z.size+j)%z.size=j:=by
  rw[Nat.mul_comm,Nat.mul_add_mod];exact Nat.mod_eq_of_lt hj
 unfold Builtin.zeroCells
 simp only[Array.toList_map,Array.toList_range,List.getElem?_map,List.getElem?_range ah,Option.map_some,hm]
 rw[getElem!_pos z j hj]
 congr 1
theorem EF(z:Array Value)(n:Nat):(Builtin.zeroCells z n).toList.length=n*z.size:=by
 unfold Builtin.zeroCells;simp
def Am{α:Type}(f:α→List AV)(z:List Value):Option α→List AV
 | some a=>f a
 | none=>z.map .val
def Ao(tb:TypeId→Option TI)(hg:Nat→Option J)(T:TypeId)(x:AV)(K:KF):Prop:=match tb T with
 | none=>False
 | some ti=>match ti.u with
  | .slice El=>match tb El with
   | none=>False
   | some ei=>match x with
    | .own r ver sz off n=>match hg r with
     | none=>False
     | some e=>match e.bd with
      | .row sz' f d l=>K (ver=e.ver∧sz=sz'∧0<n∧off+n≤l.length∧ei.sz=sz'∧(ei.zero.all fun v=>v.oneCell')=true) .any [(r,⟨e.ver,.row sz' (Am f ei.zero) none ((l.take off).map some++(List.replicate n none++(l.drop (off+n)).map some))⟩)]
      | _=>False
    | _=>False
  | _=>False
theorem Lf{tb:TypeId→Option TI}(ay:cD P tb){T:TypeId}{x:Operand}(ho:o.op= .call {callee:= .builtin .clear,args:= #[x],argTypes:= #[T]}){K:KF}(h:Ao tb hg T (ev x) K):∃Φ v us,K Φ v us∧bm P o ev hg Φ v us:=by
 unfold Ao at h
 split at h
 ·exact h.elim
 rename_i ti bT
 have hT:=(ay T ti bT).u
 split at h
 rotate_left
 ·exact h.elim
 rename_i El hu
 rw[hu] at hT
 have bO:P.underlying T=some (.slice El):=hT
 split at h
 ·exact h.elim
 rename_i ei fX
 have hE:=ay El ei fX
 obtain⟨z,hz,dT⟩:=hE.info
 obtain⟨inf,hi,i1,i2,i3⟩:=info_parts hz
 split at h
 rotate_left
 ·exact h.elim
 rename_i r ver sz off n hx
 split at h
 ·exact h.elim
 rename_i e he
 split at h
 rotate_left
 ·exact h.elim
 rename_i sz' α f d l hb
 refine⟨_,_,_,h,fun p E H w al hr hh au=> ?_⟩
 obtain⟨p1,p2,p3,p4,p5,p6⟩:=p
 subst p2
 have gw:=au x (by rw[ho];simp[aR])
 rw[hx,ae] at gw
 have ig:=hh r e he
 obtain⟨a,c,hv,h1,h2,h3,h4⟩:=gw.2 (p1.trans (hr.ver r e ig).symm)
 obtain⟨br,ha,cur,Tc,fz,hblk,cA⟩:=h4.resolve_left (by omega)
 have rU:e.bd.sz=sz:=by rw[hb];rfl
 have oQ:z.cells.size=sz:=by rw[←p5,←hE.oH,←dT];simp
 have dS:(Builtin.zeroCells z.cells n).toList.length=n*e.bd.sz:=by rw[EF,oQ,rU]
 have Lg:∀v∈ei.zero,v.oneCell'=true:=by simpa using p6
 obtain⟨O,eL,iR⟩:=Out.fill (bd':= .row sz (Am f ei.zero) none ((l.take off).map some++(List.replicate n none++(l.drop (off+n)).map some))) hr ig (by rw[hb];rfl) br (off:=off) (n:=n) (vs:=(Builtin.zeroCells z.cells n).toList) dS (by rw[hb];exact p4) (by rw[hb];rfl) (by rw[hb];simp only[Bd.count,List.length_append,List.length_map,List.length_take,List.length_replicate,List.length_drop];omega) rfl (fun i' fE hy=>by
  rw[hb]
  simp only[Bd.at,Option.map_eq_some_iff] at hy
  obtain⟨b,gI,rfl⟩:=hy
  simp only[List.getElem?_append,List.length_map,List.length_take,List.getElem?_map,List.getElem?_take,List.length_replicate,List.getElem?_replicate,List.getElem?_drop] at gI
  by_cases q1:i'<off
  ·right
   have a1:i'<min off l.length:=by omega
   simp only[a1,q1,if_true,Option.map_eq_some_iff] at gI
   obtain⟨u,hu,rfl⟩:=gI
   exact⟨.inl q1,by simp only[Bd.at,hu];rfl⟩
  ·have a1:¬i'<min off l.length:=by omega
   have a4:min off l.length=off:=by omega
   by_cases q2:i'<off+n
   ·left
    have a5:i' - min off l.length<n:=by omega
    simp only[a1,a5,if_true,if_false,Option.some.injEq] at gI
    subst gI
    refine⟨by omega,q2,ei.zero,by rw[hE.oH,p5];rfl,fun E w=>nN _,fun j u hu=> ?_⟩
    show(Builtin.zeroCells z.cells n).toList[(i' - off)*sz+j]? =some u
    rw[←oQ]
    exact Le z.cells n (by omega) (by rw[dT];exact hu)
   ·right
    have a5:¬i' - min off l.length<n:=by omega
    simp only[a1,a5,if_false,Option.map_eq_some_iff] at gI
    obtain⟨u,hu,rfl⟩:=gI
    have e1:off+n+(i' - min off l.length - n)=i':=by omega
    rw[e1] at hu
    exact⟨.inr (by omega),by simp only[Bd.at,hu];rfl⟩)
 have rQ:∀v∈(Builtin.zeroCells z.cells n).toList,v.oneCell'=true:=by
  intro v hv
  obtain⟨k,hk,rfl⟩:=List.getElem_of_mem hv
  unfold Builtin.zeroCells
  simp only[Array.toList_map,Array.toList_range,List.getElem_map,List.getElem_range]
  rw[EF] at hk
  have l5:0<z.cells.size:=by
   rcases Nat.eq_zero_or_pos z.cells.size with h0 | h0
   ·rw[h0,Nat.mul_zero] at hk;omega
   ·exact h0
  rw[getElem!_pos z.cells _ (Nat.mod_lt _ l5)]
  exact Lg _ (by rw[←dT];exact Array.getElem_mem_toList _)
 have cr:=run_storeCells_cells (P:=P) (E.ρ r) (off*e.bd.sz) (Builtin.zeroCells z.cells n).toList 0 w (by simpa using eL) (by simpa using iR) rQ
 obtain⟨m,rfl⟩:∃m,n=m+1:=⟨n - 1,by omega⟩
 refine⟨.tuple #[],_,E,.inl ?_,by rw[ae];trivial,O⟩
 rw[Nat.add_zero,rU] at cr
 rw[rU]
 unfold execOp
 simp only[ho,resolve,invoke,builtin,Sem.run_bind,Sem.run_pure,Result.andThen_ok,List.map_toArray,List.map_cons,List.map_nil,hv,ha]
 simp[Builtin.clear_,run_underlying bO,zeroValue,typeInfo,hi,i1,cr]
def Aq(tb:TypeId→Option TI)(hg:Nat→Option J)(p:Nat)(o:Oper)(S T:TypeId)(x:AV)(K:KF):Prop:=match tb S with
 | none=>False
 | some si=>match tb T with
  | none=>False
  | some ti=>match si.u with
   | .string=>match ti.u with
    | .slice El=>match tb El with
     | none=>False
     | some ei=>match ei.u with
      | .int .u8=>match x with
       | .val (.string s)=>mS hg p o s.size (.bytes s.data.toList) fun Φ v us=>K ((s.size≤140737488355328)∧Φ) v us
       | _=>False
      | _=>False
    | _=>False
   | .slice El=>match ti.u with
    | .string=>match tb El with
     | none=>False
     | some ei=>match ei.u with
      | .int .u8=>ua hg x fun Ψ l=>K Ψ (.val (.string (strOf l))) []
      | _=>False
    | .slice _=>match x with
     | .own r ver sz off n=>match hg r with
      | none=>False
      | some e=>match tb El with
       | none=>False
       | some ei=>match ei.u with
        | .int .u8=>K (S=T∧ver=e.ver∧0<n∧e.bd.jq=true) (.own r ver sz off n) [(r,⟨e.ver,e.bd⟩)]
        | _=>False
     | _=>False
    | _=>False
   | .int _=>zC tb S T x K
   | _=>False
theorem Lh{tb:TypeId→Option TI}(ay:cD P tb){p:Nat}{S T:TypeId}{x:Operand}(ho:o.op= .convert S T x){K:KF}(h:Aq tb hg p o S T (ev x) K):∃Φ v us,K Φ v us∧bm P o ev hg Φ v us:=by
 unfold Aq at h
 split at h
 ·exact h.elim
 rename_i si zD
 split at h
 ·exact h.elim
 rename_i ti bT
 have hS:=(ay S si zD).u
 have hT:=(ay T ti bT).u
 split at h
 ·rename_i hu
  repeat' (split at h;rotate_left;(try exact h.elim))
  all_goals (try exact h.elim)
  rename_i _ El lq _ ei fX _ hk _ s hx
  rw[hu] at hS;rw[lq] at hT
  have oN:P.underlying S=some .string:=hS
  have bO:P.underlying T=some (.slice El):=hT
  have hE:=(ay El ei fX).u
  rw[hk] at hE
  have aN:P.underlying El=some (.int .u8):=hE
  unfold mS at h
  split at h
  ·exact h.elim
  rename_i d hd
  split at h
  ·exact h.elim
  rename_i e he
  refine⟨_,_,_,h,fun q E H w al hr hh au=> ?_⟩
  have ck:s.size≤maxLen:=by have:=q.1;unfold maxLen;omega
  have hv:=au x (by rw[ho];simp[aR])
  rw[hx] at hv
  have hv:=bq hv
  have bB:=Lib.run_convert_string_bytes (P:=P) w S T El s oN bO aN
  have fL:=Lib.bytesWorld_at_new w El s
  have w7:=Lib.bytesWorld_size w El s
  have gh:=grownCap_ge w s.size 0 El
  have tT:=grownCap_le_maxLen w s.size 0 El ck
  have cA:(Lib.bytesCells w El s).size=grownCap w s.size 0 El:=by
   have w8:s.data.size=s.size:=rfl
   simp only[Lib.bytesCells,Array.size_append,Array.size_map,Array.size_replicate];omega
  refine⟨.slice (some ⟨w.heap.size,0,none⟩) s.size (grownCap w s.size 0 El),Lib.bytesWorld w El s,E.set (p+d) w.heap.size (e.ver+1),.inl (by unfold execOp;simp only[ho,hv,Sem.run_bind,bB,Sem.run_pure,Result.andThen_ok]),?_,Out.one hr (hh _ _ he) rfl (.inr (by omega)) (.inr (Nat.le_refl _)) ?_ ?_ ?_ (by omega) (fun k hk _=>Lib.bytesWorld_at_old w El s k hk) (fun cur T3 fz nO=> ?_) (fun X=>⟨fun _=>⟨_,_,_,_,fL,.inr (Nat.le_refl _),?_,fun i ys hy=> ?_⟩,fun _ _ _ e=>by cases e⟩)⟩
  ·rw[ae,Env.kH,Env.ln]
   refine⟨Nat.le_refl _,fun _=>⟨_,_,rfl,gh,tT,(fun h=>by cases h),.inr ⟨Env.oK _ _ _ _,by rw[Nat.zero_mul],_,_,_,fL,?_⟩⟩⟩
   rw[cA];simp[Bd.sz]
  ·simp[Lib.bytesWorld,World.freeze,World.alloc,World.drew,-World.alloc_eq,-World.drew_eq]
  ·simp[Lib.bytesWorld,World.freeze,World.alloc,World.drew,-World.alloc_eq,-World.drew_eq]
  ·simp[Lib.bytesWorld,World.freeze,World.alloc,World.drew,-World.alloc_eq,-World.drew_eq]
  ·have:=(Array.getElem?_eq_some_iff.1 nO).1;omega
  ·rw[cA]
   have:s.data.toList.length=s.size:=by simp
   simp only[Bd.count,Bd.sz,Nat.mul_one,this];exact gh
  ·simp only[Bd.at,Option.map_eq_some_iff] at hy
   obtain⟨b,hb,rfl⟩:=hy
   refine⟨[bv b],rfl,by simp only[aq,ae];exact⟨_,_,rfl,rfl,rfl⟩,fun j u hu=> ?_⟩
   cases j with
   | zero=>
    simp at hu;subst hu
    have ah:=(List.getElem?_eq_some_iff.1 hb).1
    simp only[Bd.sz,Nat.mul_one,Nat.add_zero,Lib.bytesCells]
    rw[Array.getElem?_append_left (by simpa using ah)]
    simp only[Array.getElem?_map]
    have:s.data[i]? =some b:=by simpa using hb
    rw[this];rfl
   | succ j=>simp at hu
 ·rename_i El hu
  rw[hu] at hS
  have oN:P.underlying S=some (.slice El):=hS
  split at h
  ·rename_i lq
   rw[lq] at hT
   have bO:P.underlying T=some .string:=hT
   split at h
   ·exact h.elim
   rename_i ei fX
   split at h
   rotate_left
   ·exact h.elim
   rename_i hk
   have hE:=(ay El ei fX).u
   rw[hk] at hE
   have aN:P.underlying El=some (.int .u8):=hE
   obtain⟨Ψ,l,h,hl⟩:=Ae h
   refine⟨_,_,_,h,bm.pure fun q E H w al hr hh au=> ?_⟩
   have hv:=au x (by rw[ho];simp[aR])
   have bB:=Li bO oN aN (hl q E H w _ hr hh hv)
   refine⟨_,?_,by rw[ae]⟩
   unfold execOp;simp only[ho,Sem.run_bind,bB,Sem.run_pure,Result.andThen_ok]
  ·split at h
   rotate_left
   ·exact h.elim
   rename_i r ver sz off n hx
   split at h
   ·exact h.elim
   rename_i e he
   split at h
   ·exact h.elim
   rename_i ei fX
   split at h
   rotate_left
   ·exact h.elim
   rename_i hk
   have hE:=(ay El ei fX).u
   rw[hk] at hE
   have aN:P.underlying El=some (.int .u8):=hE
   refine⟨_,_,_,h,fun q E H w al hr hh au=> ?_⟩
   obtain⟨rfl,q2,q3,q4⟩:=q
   have hH:=hh r e he
   have hv:=au x (by rw[ho];simp[aR])
   rw[hx,ae] at hv
   have gu:=hr.ver r e hH
   obtain⟨a,c,dR,h2,h3,h4,h5⟩:=hv.2 (by omega)
   obtain⟨br,rfl,cur,T',fz,h6,h7⟩:=h5.resolve_left (by omega)
   have b9:bN E r e:=⟨Bd.rC q4,br⟩
   obtain⟨rM,T2,lo,hi,g1,g2,g3,g4⟩:=(hr.bS r e hH b9).aQ q4
   rw[h6] at g1
   cases g1
   have ah:=(Array.getElem?_eq_some_iff.1 h6).1
   obtain⟨w',lx⟩:∃w':World,w'=w.freeze ⟨E.ρ r,cur.size,none⟩ 1:=⟨_,rfl⟩
   have bB:(convert S S (al x)).run P w= .ok (al x) w':=by
    rw[dR,lx]
    simp[convert,run_underlying oN,run_underlying aN,markStringish,World.shape?,h6]
   have iz:w'.os=w.os∧w'.tape=w.tape∧w'.output=w.output∧w'.heap.size=w.heap.size:=by rw[lx];simp[World.freeze]
   have rV:∀k,k≠E.ρ r→w'.heap[k]? =w.heap[k]?:=by
    intro k hk
    rw[lx]
    simp only[World.freeze,if_neg (show¬(1:Nat)=0 by decide)]
    rw[Array.getElem?_modify,if_neg (Ne.symm hk)]
   have kQ:∃kq bP,w'.heap[E.ρ r]? =some (.cells cur T' (kq,bP))∧(bP=kq∨cur.size≤kq):=by
    rw[lx]
    simp only[World.freeze,if_neg (show¬(1:Nat)=0 by decide)]
    rw[Array.getElem?_modify,if_pos rfl,h6]
    simp only[Option.map_some]
    by_cases hq:lo=hi
    ·subst hq
     exact⟨cur.size,cur.size+1,by simp,.inr (Nat.le_refl _)⟩
    ·refine⟨min lo cur.size,max hi (cur.size+1),by simp[hq],.inr ?_⟩
     rcases g2 with g2 | g2
     ·exact absurd g2.symm hq
     ·omega
   obtain⟨kq,bP,k1,k2⟩:=kQ
   have ub:E.set r (E.ρ r) e.ver=E:=Env.wJ E rfl gu.symm br
   have O:=Out.one (E:=E) (w:=w) (w':=w') (r0:=r) (b:=E.ρ r) (v':=e.ver) (bd':=e.bd) hr hH (Bd.pU (Bd.tw q4)) (.inl ⟨rfl,rfl,br⟩) (.inl ⟨rfl,b9⟩) iz.1 iz.2.1 iz.2.2.1 (by omega) (fun k _ hk=>rV k hk)
    (fun Er T3 Es h=>by rw[h6] at h;cases h;exact⟨_,_,_,k1,Nat.le_refl _⟩)
    (fun X=>⟨fun _=>⟨cur,T',kq,bP,k1,k2,g3,fun i ys hy=>by
     obtain⟨cs,m1,m2,m3⟩:=g4 i ys hy
     exact⟨cs,m1,fV X _ _ m2,m3⟩⟩,fun _ _ _ qq=>absurd qq (Bd.pT (Bd.tw q4))⟩)
   rw[ub] at O
   refine⟨al x,w',E,.inl (by unfold execOp;simp only[ho,Sem.run_bind,bB,Sem.run_pure,Result.andThen_ok]),?_,O⟩
   refine fD O.ext _ _ ?_
   rw[ae]
   exact⟨hv.1,fun _=>⟨_,c,dR,h2,h3,h4,.inr ⟨br,rfl,cur,T',_,h6,h7⟩⟩⟩
  ·exact h.elim
 ·exact Kx ay ho h
 ·exact h.elim

def Ar(ei:TI)(len:Nat)(cells:List AV)(K:Bd→Prop→Prop):Prop:=match ei.u with
 | .int .u8=>match mM .u8 cells with
  | some ns=>K (.bytes (ns.map fun n=>UInt8.ofNat n.toNat)) (qf ns∧ns.length=len∧ei.sz=1)
  | none=>False
 | .int k=>match mM k cells with
  | some ns=>K (.row 1 (dy k) 0 ns) (ns.length=len∧ei.sz=1)
  | none=>False
 | _=>K (.row ei.sz (fun i=>dw (dc cells (i*ei.sz)) ei.sz) 0 (List.range len)) (cells.length=len*ei.sz)
theorem Lj {ei : TI} {len : Nat} {cells : List AV} {K : Bd → Prop → Prop} (h : Ar ei len cells K) : ∃ bd Ψ, K bd Ψ ∧ (Ψ → bd.count = len ∧ bd.sz = ei.sz ∧ bd.jq = true ∧
    ∀(E:Env)(w:World)(cs:Array Value),len*ei.sz≤cs.size→(∀(i:Nat)(x:AV),cells[i]? =some x→∃u,cs[i]? =some u∧ae E w x u)→
     ∀i ys,bd.at i=some ys→∃us:List Value,us.length=bd.sz∧aq E w ys us∧∀j u,us[j]? =some u→cs[i*bd.sz+j]? =some u):=by
 unfold Ar at h
 split at h
 ·split at h
  rotate_left
  ·exact h.elim
  rename_i ns gv
  refine⟨_,_,h,fun q=> ?_⟩
  obtain⟨q2,q3,q4⟩:=q
  refine⟨by simpa [Bd.count] using q3,q4.symm,rfl,fun E w cs h4 h5 i ys hy=> ?_⟩
  simp only[Bd.at,List.getElem?_map,Option.map_eq_some_iff] at hy
  obtain⟨b,⟨n,hn,rfl⟩,rfl⟩:=hy
  have cT:cells[i]? =some (.val (.int .u8 n)):=by rw[pX gv];simp[hn]
  obtain⟨u,hu,fo⟩:=h5 i _ cT
  have hb:=w6 q2 n (List.mem_of_getElem? hn)
  have lq:u=bv (UInt8.ofNat n.toNat):=by
   rw[bq fo];unfold bv
   congr 1
   simp;omega
  refine⟨[u],rfl,by simp only[aq,ae];exact⟨_,_,rfl,lq,rfl⟩,fun j v hv=> ?_⟩
  cases j with
  | zero=>simp at hv;subst hv;simp only[Bd.sz,Nat.mul_one,Nat.add_zero];exact hu
  | succ j=>simp at hv
 ·rename_i k _ hk
  split at h
  rotate_left
  ·exact h.elim
  rename_i ns gv
  refine⟨_,_,h,fun q=> ?_⟩
  obtain⟨q3,q4⟩:=q
  refine⟨by simpa [Bd.count] using q3,q4.symm,rfl,fun E w cs h4 h5 i ys hy=> ?_⟩
  simp only[Bd.at,Option.map_eq_some_iff] at hy
  obtain⟨n,hn,rfl⟩:=hy
  have cT:cells[i]? =some (.val (.int k n)):=by rw[pX gv];simp[hn]
  obtain⟨u,hu,fo⟩:=h5 i _ cT
  refine⟨[u],rfl,by simp only[dy,aq];exact⟨_,_,rfl,fo,rfl⟩,fun j v hv=> ?_⟩
  cases j with
  | zero=>simp at hv;subst hv;simp only[Bd.sz,Nat.mul_one,Nat.add_zero];exact hu
  | succ j=>simp at hv
 ·refine⟨_,_,h,fun q=> ?_⟩
  refine⟨by simp[Bd.count],rfl,rfl,fun E w cs h4 h5 i ys hy=> ?_⟩
  simp only[Bd.at,Option.map_eq_some_iff] at hy
  obtain⟨i',bP,rfl⟩:=hy
  have ah:i<len:=by have:=(List.getElem?_eq_some_iff.1 bP).1;simpa using this
  rw[List.getElem?_range ah] at bP
  cases bP
  have hle:(i+1)*ei.sz≤len*ei.sz:=Nat.mul_le_mul_right _ ah
  rw[Nat.add_mul,Nat.one_mul] at hle
  rw[js,jr]
  refine⟨(cs.toList.drop (i*ei.sz)).take ei.sz,by simp[Bd.sz];omega,tu (by simp;omega) (fun j x u hx hu=> ?_),fun j u hu=> ?_⟩
  ·rw[List.getElem?_take] at hx hu
   split at hx
   ·rename_i hj
    rw[if_pos hj] at hu
    rw[List.getElem?_drop] at hx hu
    obtain⟨u',jt,fo⟩:=h5 _ _ hx
    have:cs[i*ei.sz+j]? =some u:=by simpa using hu
    rw[this] at jt;cases jt;exact fo
   ·cases hx
  ·rw[List.getElem?_take] at hu
   split at hu
   ·rw[List.getElem?_drop] at hu;simpa [Bd.sz] using hu
   ·cases hu
def Au(tb:TypeId→Option TI)(hg:Nat→Option J)(m:Nat)(El:TypeId)(x:AV)(lo hi:Option AV)(K:KF):Prop:=match tb El with
 | none=>False
 | some ei=>match x with
  | .ref r ver sz i j=>match hg r with
   | none=>False
   | some e=>match e.bd with
    | .obj cells=>match j with
     | 0=>Ar ei m cells fun bd Ψ=>hZ lo 0 fun l=>hZ hi m fun h=>
      K (ver=e.ver∧Ψ∧i=0∧(0:Nat)=0∧cells.length=m*ei.sz∧m≤140737488355328∧0≤l∧l≤h∧h≤m) (.own r (e.ver+1) ei.sz l.toNat (h.toNat - l.toNat)) [(r,⟨e.ver+1,bd⟩)]
     | j'+1=>hZ lo 0 fun l=>hZ hi m fun h=>
      K (ver=e.ver∧i=0∧ei.sz=1∧j'+1+m≤cells.length∧m≤140737488355328∧0≤l∧l≤h∧h≤m) (.own r ver 1 (j'+1+l.toNat) (h.toNat - l.toNat)) []
    | _=>False
  | _=>False
theorem EG {T E : TypeId} {ti : TI} {m : Nat} (hT : P.underlying T = some (.array m E)) (hE : bj P E ti) {a : Addr} {l h : Nat} {lo hi : Option Value} (hl : mN lo 0 l) (hh : mN hi m h) (h1 : l ≤ h) (h2 : h ≤ m) (w : World) :
    (Instr.sliceAt T (.pointer (some a)) lo hi none).run P w= .ok (.slice (some (if m=l then a else a.add (l*ti.sz))) (h - l) (m - l)) w:=by
 rcases hl with⟨rfl,rfl⟩ | ⟨k,rfl⟩<;>rcases hh with⟨rfl,rfl⟩ | ⟨k',rfl⟩<;>
  simp[Instr.sliceAt,Instr.sureAddr,Instr.sliceBounds,Instr.sliceBound,asIntOf,run_underlying hT,Sem.run_bind,hE.sizeOf,h1,h2]
theorem Lk{tb:TypeId→Option TI}(ay:cD P tb){T:TypeId}{x:Operand}{lo hi:Option Operand}(ho:o.op= .slice T x lo hi none){m:Nat}{El:TypeId}(hT:P.underlying T=some (.array m El)){K:KF}(h:Au tb hg m El (ev x) (lo.map ev) (hi.map ev) K):∃Φ v us,K Φ v us∧bm P o ev hg Φ v us:=by
 unfold Au at h
 split at h
 ·exact h.elim
 rename_i ei fX
 have hE:=ay El ei fX
 split at h
 rotate_left
 ·exact h.elim
 rename_i r ver sz i j hx
 split at h
 ·exact h.elim
 rename_i e he
 split at h
 rotate_left
 ·exact h.elim
 rename_i cells hb
 split at h
 rotate_left
 ·rename_i j'
  obtain⟨l,h,hl⟩:=iU h
  obtain⟨kK,h,jS⟩:=iU h
  refine⟨_,_,_,h,bm.pure fun p E H w al hr hh au=> ?_⟩
  obtain⟨p1,rfl,p3,p5,p6,p7,p8,p9⟩:=p
  rw[ho] at au
  simp only[aR] at au
  have hv:=au x (by simp)
  rw[hx,ae] at hv
  have hH:=hh r e he
  have w9:=p1.trans (hr.ver r e hH).symm
  have dx:=hv.2 w9
  have br:¬E.abs r:=fun q=>by have:=hr.abs r e hH q;rw[hb] at this;simp[Bd.count] at this
  have b9:bN E r e:=⟨by rw[hb];rfl,br⟩
  obtain⟨cur,T',kq,bP,h3,h4,h5,h6⟩:=(hr.bS r e hH b9).aQ (by rw[hb];rfl)
  have de:cells.length≤cur.size:=by rw[hb] at h5;simpa [Bd.count,Bd.sz] using h5
  rw[Nat.zero_mul,Nat.zero_add] at dx
  have bB:=EG hT hE (a:=⟨E.ρ r,j'+1,none⟩) (hl E w al (fun y hy=>au y (by simp at hy⊢;simp[hy])) p7) (jS E w al (fun y hy=>au y (by simp at hy⊢;simp[hy])) (by omega)) (by omega) (by omega) w
  refine⟨.slice (some (if m=l.toNat then⟨E.ρ r,j'+1,none⟩ else(Addr.add ⟨E.ρ r,j'+1,none⟩ (l.toNat*ei.sz)))) (kK.toNat - l.toNat) (m - l.toNat),?_,?_⟩
  ·unfold execOp
   simp only[ho,Sem.run_bind,Option.map_none,dx]
   rw[bB]
   simp only[Result.andThen_ok,Sem.run_pure]
  ·rw[ae]
   refine⟨hv.1,fun _=>⟨_,_,rfl,by omega,by unfold maxLen;omega,(fun q=>by cases q),?_⟩⟩
   by_cases fW:m=l.toNat
   ·left;omega
   ·refine .inr ⟨br,?_,cur,T',(kq,bP),h3,by omega⟩
    rw[if_neg fW,p3];simp[Addr.add_lit]
 obtain⟨bd,Ψ,h,cG⟩:=Lj h
 obtain⟨l,h,hl⟩:=iU h
 obtain⟨kK,h,jS⟩:=iU h
 refine⟨_,_,_,h,fun p E H w al hr hh au=> ?_⟩
 obtain⟨p1,p2,rfl,_,p5,p6,p7,p8,p9⟩:=p
 rw[ho] at au
 simp only[aR] at au
 have hv:=au x (by simp)
 rw[hx,ae] at hv
 have hH:=hh r e he
 have dx:=hv.2 (p1.trans (hr.ver r e hH).symm)
 have br:¬E.abs r:=fun q=>by have:=hr.abs r e hH q;rw[hb] at this;simp[Bd.count] at this
 have b9:bN E r e:=⟨by rw[hb];rfl,br⟩
 obtain⟨cur,T',kq,bP,h3,h4,h5,h6⟩:=(hr.bS r e hH b9).aQ (by rw[hb];rfl)
 obtain⟨b1,b2,b3,b4⟩:=cG p2
 have de:cells.length≤cur.size:=by rw[hb] at h5;simpa [Bd.count,Bd.sz] using h5
 obtain⟨cs,c1,c2,c3⟩:=h6 0 cells (by rw[hb];simp[Bd.at])
 rw[Nat.zero_mul] at dx
 simp only[Nat.zero_add,Nat.zero_mul] at c3
 have bB:=EG hT hE (a:=⟨E.ρ r,0+0,none⟩) (hl E w al (fun y hy=>au y (by simp at hy⊢;simp[hy])) p7) (jS E w al (fun y hy=>au y (by simp at hy⊢;simp[hy])) (by omega)) (by omega) (by omega) w
 have hex:(execOp al o).run P w= .ok (.value (.slice (some (if m=l.toNat then⟨E.ρ r,0+0,none⟩ else(Addr.add ⟨E.ρ r,0+0,none⟩ (l.toNat*ei.sz)))) (kK.toNat - l.toNat) (m - l.toNat))) w:=by
  unfold execOp
  simp only[ho,Sem.run_bind,Option.map_none,dx]
  rw[bB]
  simp only[Result.andThen_ok,Sem.run_pure]
 refine⟨_,w,E.set r (E.ρ r) (e.ver+1),.inl hex,?_,Out.one hr hH (Bd.pU (Bd.tw b3)) (.inr (by omega)) (.inl ⟨rfl,b9⟩) rfl rfl rfl (Nat.le_refl _) (fun k _ _=>rfl) (fun cur T fz h=>⟨cur,T,fz,h,Nat.le_refl _⟩) (fun X=>⟨fun _=>⟨cur,T',kq,bP,h3,h4,?_,fun i ys hy=> ?_⟩,fun _ _ _ q=>absurd q (Bd.pT (Bd.tw b3))⟩)⟩
 ·rw[ae,Env.kH,Env.ln]
  refine⟨Nat.le_refl _,fun _=>⟨_,_,rfl,by omega,by unfold maxLen;omega,(fun q=>by cases q),?_⟩⟩
  by_cases fW:m=l.toNat
  ·left;omega
  ·refine .inr ⟨Env.oK _ _ _ _,?_,cur,T',(kq,bP),h3,?_⟩
   ·rw[if_neg fW];simp[Addr.add_lit]
   ·rw[show l.toNat+(m - l.toNat)=m by omega,←p5];exact de
 ·rw[b1,b2,←p5];exact de
 ·obtain⟨us,k1,k2,k3⟩:=b4 E w cur (by rw[←p5];exact de) (fun i x hx=>by
    obtain⟨u,hu,fo⟩:=(eX c2).2 i x hx
    exact⟨u,c3 i u hu,fo⟩) i ys hy
  exact⟨us,k1,fV X _ _ k2,k3⟩
def Av(tb:TypeId→Option TI)(T:TypeId)(x:AV)(K:KF):Prop:=match tb T with
 | none=>False
 | some ti=>match ti.u with
  | .slice _=>match x with
   | .val (.slice none 0 0)=>K True (.val (.int .i64 0)) []
   | _=>False
  | _=>False
theorem Ll{tb:TypeId→Option TI}(ay:cD P tb){T:TypeId}{x:Operand}(ho:o.op= .call {callee:= .builtin .cap,args:= #[x],argTypes:= #[T]}){K:KF}(h:Av tb T (ev x) K):∃Φ v us,K Φ v us∧bm P o ev hg Φ v us:=by
 unfold Av at h
 split at h
 ·exact h.elim
 rename_i ti bT
 have hT:=(ay T ti bT).u
 split at h
 rotate_left
 ·exact h.elim
 rename_i E0 hu
 rw[hu] at hT
 have bO:P.underlying T=some (.slice E0):=hT
 split at h
 rotate_left
 ·exact h.elim
 rename_i hx
 refine⟨_,_,_,h,bm.pure fun _ E H w al hr hh au=> ?_⟩
 rw[ho] at au
 have hv:=au x (by simp[aR])
 rw[hx] at hv
 have hv:=bq hv
 refine⟨.int .i64 0,?_,by rw[ae]⟩
 unfold execOp
 simp[ho,resolve,invoke,builtin,hv,Builtin.cap_,goInt,run_underlying bO]
def bC(n:Nat)(l:List UInt8):List AV:=(List.range n).map fun i=> .val (bv (l.getD i 0))
def Aw(tb:TypeId→Option TI)(T:TypeId)(x:AV)(K:KF):Prop:=match tb T with
 | none=>False
 | some ti=>match ti.u with
  | .array n El=>match tb El with
   | none=>False
   | some ei=>match ei.u with
    | .int .u8=>match x with
     | .bs z l=>K (0<n∧n≤l.length) (.cp z (bC n l) 0) []
     | _=>False
    | _=>False
  | _=>False
theorem EH(E:Env)(w:World)(l:List UInt8)(n:Nat):aq E w (bC n l) ((List.range n).map fun i=>bv (l.getD i 0)):=by
 unfold bC
 generalize List.range n=r
 induction r with
 | nil=>simp only[List.map_nil,aq]
 | cons x r ih=>simp only[List.map_cons,aq,ae];exact⟨_,_,rfl,rfl,ih⟩
theorem Lm{tb:TypeId→Option TI}(ay:cD P tb){T:TypeId}{x:Operand}(ho:o.op= .sliceToArrayPointer T x){K:KF}(h:Aw tb T (ev x) K):∃Φ v us,K Φ v us∧bm P o ev hg Φ v us:=by
 unfold Aw at h
 repeat' (split at h;(first | exact h.elim | skip))
 all_goals (try exact h.elim)
 rename_i _ ti bT _ n El hu _ ei fX _ hE _ z l hx
 have hT:=(ay T ti bT).u
 rw[hu] at hT
 have bO:P.underlying T=some (.array n El):=hT
 refine⟨_,_,_,h,bm.pure fun p E H w al hr hh au=> ?_⟩
 have hv:=au x (by rw[ho];simp[aR])
 rw[hx,ae] at hv
 obtain⟨a,m,c,h1,h2,h3,h4,h5,h6⟩:=hv
 refine⟨.pointer a,Ln ho bO h1 (by omega),?_⟩
 obtain⟨b,o',q1,q2,q3⟩:=h6 0 (l.getD 0 0) (by rw[List.getD_eq_getElem?_getD,List.getElem?_eq_getElem (by omega)];rfl)
 rw[ae]
 refine⟨b,o',_,by rw[q1];rfl,q2,EH E w l n,fun j u hu=> ?_⟩
 rw[List.getElem?_map] at hu
 obtain⟨i,hi,rfl⟩:=Option.map_eq_some_iff.1 hu
 obtain⟨hj,rfl⟩:=List.getElem?_eq_some_iff.1 hi
 simp only[List.length_range] at hj
 simp only[List.getElem_range]
 obtain⟨b',o2,g1,g2,g3⟩:=h6 j (l.getD j 0) (by rw[List.getD_eq_getElem?_getD,List.getElem?_eq_getElem (by omega)];rfl)
 rw[q1] at g1
 cases g1
 exact g3
def nS(tb:TypeId→Option TI)(p:Nat)(o:Oper)(ev:Operand→AV)(hg:Nat→Option J)(K:KF):Prop:=match o.op with
 | .move x=>K True (ev x) []
 | .assign x=>K True (ev x) []
 | .alloc T=>zK tb hg p o T K
 | .box _ x=>zL hg p o (ev x) K
 | .build T ps=>zZ tb hg T (ps.toList.map fun q=>(q.1,ev q.2)) K
 | .buildSlice T n ps=>z7 tb hg p o T n (ps.toList.map fun q=>(q.1,ev q.2)) K
 | .load T x=>zh tb hg T (ev x) K
 | .store T x y=>zI tb hg T (ev x) (ev y) K
 | .nilCheck x=>zj hg (ev x) K
 | .binOp op T x y _=>zx tb hg op T (ev x) (ev y) K
 | .unOp op _ x=>zA op (ev x) K
 | .convert S T x=>Aq tb hg p o S T (ev x) K
 | .makeFunc fn first caps=>match fn with
  | .func f=>match first.toList with
   | []=>K True (.clo f (caps.toList.map ev)) []
   | _=>False
  | _=>False
 | .makeSlice T x y=>Aa tb hg p o T (ev x) (ev y) K
 | .slice T x lo hi mx=>match mx with
  | none=>match tb T with
   | some ⟨.array m El,_,_,_,_⟩=>Au tb hg m El (ev x) (lo.map ev) (hi.map ev) K
   | _=>zr tb hg T (ev x) (lo.map ev) (hi.map ev) K
  | some m=>match hi with
   | some h=>zu tb hg T (ev x) (lo.map ev) (ev h) (ev m) K
   | none=>False
 | .fieldAddr T x k=>D3 tb hg T (ev x) k K
 | .field T x k=>Ed tb T (ev x) k K
 | .indexAddr T x y=>zo tb hg T (ev x) (ev y) K
 | .index T x y=>zp tb T (ev x) (ev y) K
 | .extract x i=>zF (ev x) i K
 | .sliceToArrayPointer T x=>Aw tb T (ev x) K
 | .call c=>match c.callee with
  | .builtin b=>match b with
   | .len=>match c.args.toList with
    | [x]=>match c.argTypes.toList with
     | [T]=>zG (hg:=hg) tb T (ev x) K
     | _=>False
    | _=>False
   | .cap=>match c.args.toList with
    | [x]=>match c.argTypes.toList with
     | [T]=>Av tb T (ev x) K
     | _=>False
    | _=>False
   | .append=>match c.args.toList with
    | [s,x]=>match c.argTypes.toList with
     | [T,Tx]=>zT tb hg p o T Tx (ev s) (ev x) K
     | _=>False
    | _=>False
   | .copy=>match c.args.toList with
    | [x,y]=>match c.argTypes.toList with
     | [T,_]=>Ag tb hg T (ev x) (ev y) K
     | _=>False
    | _=>False
   | .min=>match c.args.toList with
    | [x,y]=>wT false (ev x) (ev y) K
    | _=>False
   | .max=>match c.args.toList with
    | [x,y]=>wT true (ev x) (ev y) K
    | _=>False
   | .clear=>match c.args.toList with
    | [x]=>match c.argTypes.toList with
     | [T]=>Ao tb hg T (ev x) K
     | _=>False
    | _=>False
   | _=>False
  | _=>False
 | _=>False
theorem xa{tb:TypeId→Option TI}(ay:cD P tb){p:Nat}{K:KF}(h:nS tb p o ev hg K):∃Φ v us,K Φ v us∧bm P o ev hg Φ v us:=by
 unfold nS at h
 split at h
 case h_1 x ho=>exact Eb (.inl ho) h
 case h_2 x ho=>exact Eb (.inr ho) h
 case h_3 T ho=>exact KK ay ho h
 case h_4 T x ho=>exact KL ho h
 case h_5 T ps ho=>exact K3 ay ho h
 case h_6 T n ps ho=>exact K7 ay ho h
 case h_7 T x ho=>exact Ki ay ho h
 case h_8 T x y ho=>exact KI ay ho h
 case h_9 x ho=>exact Kj ho h
 case h_10 op T x y T' ho=>exact Kt ay ho h
 case h_11 op T x ho=>exact Kw ho h
 case h_12 S T x ho=>exact Lh ay ho h
 case h_13 fn first caps ho=>
  split at h
  ·split at h
   ·rename_i f hf
    have:first= #[]:=by cases first;simp_all
    subst this
    exact KD ho h
   ·exact h.elim
  ·exact h.elim
 case h_14 T x y ho=>exact K8 ay ho h
 case h_15 T x lo hi mx ho=>
  split at h
  ·split at h
   ·rename_i bT
    exact Lk ay ho (ay _ _ bT).u h
   ·exact Ko ay ho h
  ·split at h
   ·exact Kq ay ho h
   ·exact h.elim
 case h_16 T x k ho=>exact Kk ay ho h
 case h_17 T x k ho=>exact KC ay ho h
 case h_18 T x y ho=>exact Kl ay ho h
 case h_19 T x y ho=>exact Km ay ho h
 case h_20 x i ho=>exact KB ho h
 case h_21 T x ho=>exact Lm ay ho h
 case h_22 c ho=>
  obtain⟨EI,args,ts⟩:=c
  have ea:∀{α:Type}{a:Array α}{l:List α},a.toList=l→a=l.toArray:=by intro α a l h;cases a;simp_all
  simp only at h
  split at h
  rotate_left
  ·exact h.elim
  split at h
  ·split at h
   ·rename_i ha
    split at h
    ·rename_i ht
     exact KE ay (by rw[ho,ea ha,ea ht]) h
    ·exact h.elim
   ·exact h.elim
  ·split at h
   ·rename_i ha
    split at h
    ·rename_i ht
     exact Ll ay (by rw[ho,ea ha,ea ht]) h
    ·exact h.elim
   ·exact h.elim
  ·split at h
   ·rename_i ha
    split at h
    ·rename_i ht
     exact K1 ay (by rw[ho,ea ha,ea ht]) h
    ·exact h.elim
   ·exact h.elim
  ·split at h
   ·rename_i ha
    split at h
    ·rename_i ht
     exact Lc ay (by rw[ho,ea ha,ea ht]) h
    ·exact h.elim
   ·exact h.elim
  ·split at h
   ·rename_i ha
    exact EB (mx:=false) (ts:=ts) (by rw[ho,ea ha];rfl) h
   ·exact h.elim
  ·split at h
   ·rename_i ha
    exact EB (mx:=true) (ts:=ts) (by rw[ho,ea ha];rfl) h
   ·exact h.elim
  ·split at h
   ·rename_i ha
    split at h
    ·rename_i ht
     exact Lf ay (by rw[ho,ea ha,ea ht]) h
    ·exact h.elim
   ·exact h.elim
  ·exact h.elim
 all_goals exact h.elim
end

structure St:Type 1 where
 t:List AV
 H:List J
structure Bs where
 keep:Nat→Prop
 E0:Env
 old:Nat→Prop
 pure:Prop
def mark(D:Nat):Deferred:={target:= .collected D,args:= #[]}
def Marks(n:Nat)(E:Env)(w:World)(ds:List Deferred):Prop:=∃Ds:List Nat,ds=Ds.map mark∧Ds.Nodup∧∀D∈Ds,n≤D∧(∃z,E.aC z D)∧w.heap[D]? =some (.deferred (some []))
theorem Marks.ext{n:Nat}{E E':Env}{w w':World}{ds:List Deferred}(X:Ext E E' w w')(h:Marks n E w ds):Marks n E' w' ds:=by
 obtain⟨Ds,h1,h2,h3⟩:=h
 refine⟨Ds,h1,h2,fun D hD=> ?_⟩
 obtain⟨h4,⟨z,h5⟩,h6⟩:=h3 D hD
 exact⟨h4,⟨z,X.aC z D h5⟩,(X.cell z D h5).trans h6⟩
theorem Marks.nil(n:Nat)(E:Env)(w:World):Marks n E w []:=⟨[],rfl,List.nodup_nil,by simp⟩
structure Rel(w0:World)(keep:Bs)(E:Env)(s:St)(a:Act)(w:World):Prop where
 len:s.t.length=a.tmps.size
 tmps:∀(i:Nat)(x:AV),s.t[i]? =some x→ae E w x (a.tmps.getD i undef)
 defers:(keep.pure→a.defers=[])∧Marks w0.heap.size E w a.defers
 hr:HR E w s.H
 fr:Fr w0 keep.keep E s.H w
 ext:Ext keep.E0 E w0 w
 aC:∀z b,E.aC z b→keep.E0.aC z b∨w0.heap.size≤b∨keep.old b
 rows:∀(r:Nat)(e:J)(b:Nat),s.H[r]? =some e→aB E r e b→w0.heap.size≤b∨keep.old b
def eF:Value→AV
 | .agg cs=> .agg (cs.toList.map .val)
 | .tuple cs=> .aD (cs.toList.map .val)
 | v=> .val v
theorem Lo(E:Env)(w:World)(v:Value):ae E w (eF v) v:=by
 cases v<;>simp only[eF,ae]
 ·exact⟨_,by simp,nN _⟩
 ·exact⟨_,by simp,nN _⟩
def iX:AV→Prop
 | .gd φ _=>φ
 | _=>True
def dO:AV→AV
 | .gd _ x=>x
 | x=>x
theorem Ax{E:Env}{w:World}{x:AV}{v:Value}(h:ae E w x v)(hg:iX x):ae E w (dO x) v:=by
 cases x<;>simp only[dO]<;>try exact h
 rw[ae] at h;exact h.1 hg
def Ay(g:Nat):AV:=match rD g with
 | some cs=> .cp 0 (cs.map .val) 0
 | none=> .any
theorem Lp{E:Env}{w:World}(h:Gl E w)(g:Nat):ae E w (Ay g) (.pointer (some ⟨g,0,none⟩)):=by
 unfold Ay
 split
 ·rename_i cs hg
  obtain⟨h1,h2⟩:=h g cs hg
  rw[ae]
  exact⟨g,0,cs,rfl,h1,nN cs,fun j u hu=>by rw[Nat.zero_add];exact h2 j u hu⟩
 ·rw[ae];trivial
def bu(t:List AV):Operand→AV
 | .tmp i=>dO (bF t i)
 | .const v=>eF v
 | .func f=> .clo f []
 | .global g=>Ay g
def dP(t:List AV):Operand→Prop
 | .tmp i=>iX (bF t i)
 | _=>True
def dV(t:List AV):List Operand→Prop
 | []=>True
 | x::xs=>dP t x∧dV t xs
def bc(t:List AV):Option Tmp→AV→List AV
 | none,_=>t
 | some d,v=>aJ t d v
section
variable {P:Program} {w0:World} {keep:Bs}
theorem Rel.get{E:Env}{s:St}{a:Act}{w:World}(h:Rel w0 keep E s a w)(i:Nat):ae E w (bF s.t i) (a.tmps.getD i undef):=by
 unfold bF
 rw[cj]
 cases hi:s.t[i]? with
 | none=>simp only[ae]
 | some x=>exact h.tmps i x hi
theorem Rel.ik{E:Env}{s:St}{a:Act}{w:World}(h:Rel w0 keep E s a w){x:Operand}(hx:dP s.t x):ae E w (bu s.t x) (a.eval x):=by
 cases x with
 | tmp i=>exact Ax (h.get i) hx
 | const v=>exact Lo E w v
 | func f=>simp only[bu,ae,Act.eval];exact⟨[],rfl,by simp[aq]⟩
 | global g=>exact Lp h.hr.gl g
theorem l6{t:List AV}:∀{xs:List Operand},dV t xs→∀x∈xs,dP t x
 | y::xs,h,x,hx=>by
  rcases List.mem_cons.1 hx with rfl | hx
  ·exact h.1
  ·exact l6 h.2 x hx
theorem Rel.put{E E':Env}{s:St}{a:Act}{w w':World}(h:Rel w0 keep E s a w){us:List (Nat×J)}(o:Out E E' w w' s.H us){dst:Option Tmp}{x:AV}{v:Value}(hv:ae E' w' x v):Rel w0 keep E' ⟨bc s.t dst x,aM s.H us⟩ (a.put dst v) w':=by
 refine⟨?_,?_,?_,o.hr,h.fr.out o,h.ext.trans o.ext,fun z b hz=> ?_,fun r e b hr hl=> ?_⟩
 ·cases dst<;>simp[bc,Act.put,bK,h.len]
 ·intro i y hy
  cases dst with
  | none=>exact fD o.ext y _ (h.tmps i y hy)
  | some d=>
   simp only[bc,bK] at hy
   by_cases hi:d=i
   ·subst hi
    have ah:d<s.t.length:=by have:=(List.getElem?_eq_some_iff.1 hy).1;simpa using this
    rw[List.getElem?_set_self ah] at hy
    cases hy
    have:d<a.tmps.size:=by rw[←h.len];exact ah
    rw[Af a v this];exact hv
   ·rw[List.getElem?_set_ne hi] at hy
    rw[Lq a v (by simp;exact hi)]
    exact fD o.ext y _ (h.tmps i y hy)
 ·cases dst<;>exact⟨h.defers.1,h.defers.2.ext o.ext⟩
 ·rcases o.aC z b hz with h1 | h1 | ⟨r0,e0,h2,h3⟩
  ·exact h.aC z b h1
  ·have:=h.fr.size;right;left;omega
  ·rcases h.rows r0 e0 b h2 h3 with h4 | h4
   ·exact .inr (.inl h4)
   ·exact .inr (.inr h4)
 ·rcases o.rows r e b hr hl with h1 | ⟨r0,e0,h2,h3,_⟩
  ·have:=h.fr.size;left;omega
  ·exact h.rows r0 e0 b h2 h3

def uc(P:Program)(f:FuncId)(as:Array Value)(w:World)(R:Value→World→Prop):Prop:=
 ((callFunc f as).run P w= .ok (.enter f as) w∧Calls P f as w fun e w'=>∃v,e= .returned v∧R v w')∨
 ∃v w',(callFunc f as).run P w= .ok (.value v) w'∧R v w'
def Az(P:Program)(f:FuncId)(args:List AV)(hg:Nat→Option J)(post:AV→List (Nat×J)→Prop):Prop:=
 ∀(E:Env)(H:List J)(w:World)(cargs:List Value),HR E w H→(∀(r:Nat)(e:J),hg r=some e→H[r]? =some e)→aq E w args cargs→
  uc P f cargs.toArray w fun v w'=>∃x us E',post x us∧ae E' w' x v∧Out E E' w w' H us
theorem EJ {P : Program} {o : Oper} {c : Call} {f : Operand} (ho : o.op = .call c) (hc : c.callee = .value f) {a : Act} {fn : FuncId} {cs : List Value} (ju : a.eval f = .func (.func fn) #[] cs.toArray) {w : World} {R : Value → World → Prop}
    (h:uc P fn (c.args.toList.map a.eval++cs).toArray w R) {K:Act→World→Prop} {Q:Exit→Act→World→Prop} (hK:∀v w',R v w'→K (a.put o.dst v) w'):o.wp P a w K Q:=by
 have e1:execOp a.eval o=callFunc fn (c.args.toList.map a.eval++cs).toArray:=by
  have e2:execOp a.eval o=callFunc fn (#[]++c.args.map a.eval++cs.toArray):=by
   obtain⟨dst,op,type,pos,after,guard⟩:=o
   simp only at ho
   subst ho
   obtain⟨EI,args,ts⟩:=c
   simp only at hc
   subst hc
   unfold execOp
   simp only[resolve,ju]
   rfl
  rw[e2]
  congr 1
  apply Array.ext'
  simp
 rcases h with⟨h1,h2⟩ | ⟨v,w',h1,h2⟩
 ·unfold Oper.wp
  rw[e1,h1]
  refine Calls.mono h2 fun e w'⟨v,he,hr⟩=> ?_
  subst he
  exact hK v w' hr
 ·exact uf (by rw[e1,h1]) (hK v w' h2)
@[irreducible] def eZ (P:Program) (x:AV) (args:List AV) (hg:Nat→Option J) (K:AV→List (Nat×J)→Prop):Prop:=
 ∃f caps,x= .clo f caps∧∃post,Az P f (args++caps) hg post∧∀v us,post v us→K v us
def rW(s:St)(dst:Option Tmp)(K:St→Prop)(v:AV)(us:List (Nat×J)):Prop:=K ⟨bc s.t dst v,aM s.H us⟩

def FR(r:Option Nat):Fence:={Fence.wide with round:=r}
def ug(r:Option Nat)(o:Oper):Prop:=r=none∨∀c,o.op≠.defer c
def rX(P:Program)(o:Oper)(a:Act)(w:World)(K:Act→World→Prop)(Q:Exit→Act→World→Prop):Prop:=∀(r:Option Nat)(n:Nat),ug r o→o.wpIn (FR r) n P a w K Q
theorem EK{r:Option Nat}{o:Oper}(h:ug r o)(ρ:Operand→Value):o.semAt r ρ=execOp ρ o:=by
 rcases h with rfl | h
 ·rfl
 ·exact Oper.semAt_plain (FR r) ρ o h
theorem kx{P:Program}{o:Oper}{a:Act}{w:World}{K:Act→World→Prop}{Q:Exit→Act→World→Prop}(h:o.wp P a w K Q):rX P o a w K Q:=by
 intro r n ho
 refine⟨fun _ _=>trivial,?_⟩
 have e:o.semAt (FR r).round a.eval=execOp a.eval o:=EK ho _
 rw[e]
 unfold Oper.wp at h
 generalize (execOp a.eval o).run P w=res at h⊢
 cases res with
 | ok nx w'=>
  cases nx<;>first | exact h | exact h.elim | skip
  ·exact⟨fun q=>(by cases q),callsIn_wide.2 h⟩
  ·refine⟨fun q=>(by cases q),fun c cs _=> ?_⟩
   obtain⟨v,wE,h1,h2⟩:=h c cs
   exact⟨v,wE,h1,stepsIn_wide.2 h2⟩
 | halt hh w'=>cases hh<;>first | exact h | exact h.elim
def Lr(P:Program)(r:Option Nat)(n:Nat)(l:Nat)(as:Array Value)(w:World)(R:Value→World→Prop):Prop:=
 ∃fn tmps gX body,(Instr.yield l as).run P w= .ok (.round l fn tmps gX body) w∧RoundIn (FR r) n P l fn tmps gX body w fun e w'=>∃v,e= .returned v∧R v w'
def Ls(P:Program)(rw:Nat)(args:List AV)(H:List J)(post:AV→List (Nat×J)→Prop):Prop:=
 ∀(E:Env)(w:World)(cargs:List Value),HR E w H→aq E w args cargs→
  ∀(r:Option Nat)(n:Nat),Lr P r n (E.ρ rw) cargs.toArray w fun v w'=>∃x us E',post x us∧ae E' w' x v∧Out E E' w w' H us
@[irreducible] def rY (P:Program) (rw ver:Nat) (args:List AV) (H:List J) (K:AV→List (Nat×J)→Prop):Prop:=
 (∃e,bb H rw=some e∧e.ver=ver)∧∃post,Ls P rw args H post∧∀v us,post v us→K v us
def xb(P:Program)(c:Call)(f:Operand)(s:St)(K:AV→List (Nat×J)→Prop):Prop:=match bu s.t f with
 | .gG rw ver=>rY P rw ver (c.args.toList.map (bu s.t)) s.H K
 | x=>eZ P x (c.args.toList.map (bu s.t)) (bb s.H) K
theorem EL{P:Program}{c:Call}{f:Operand}{s:St}{K:AV→List (Nat×J)→Prop}(h:xb P c f s K):(∃rw ver,bu s.t f= .gG rw ver∧rY P rw ver (c.args.toList.map (bu s.t)) s.H K)∨eZ P (bu s.t f) (c.args.toList.map (bu s.t)) (bb s.H) K:=by
 unfold xb at h
 split at h
 ·rename_i rw ver he
  exact .inl ⟨rw,ver,he,h⟩
 ·exact .inr h

def rZ(a b:Operand)(q x y:Bool):Bool:=match a with
 | .const (.bool true)=>q||y
 | _=>match b with
  | .const (.bool false)=>q&&x
  | _=>(q&&x)||(!q&&y)
def oR(t:List AV)(c a b:Operand)(K:Prop→AV→Prop):Prop:=match bu t c with
 | .val (.bool q)=>match bu t b with
  | .any=>K (dP t c∧q=true∧dP t a) (bu t a)
  | .val (.bool y)=>match bu t a with
   | .val (.bool x)=>K (dP t c∧(q=true→dP t a)∧(q=false→dP t b)) (.val (.bool (rZ a b q x y)))
   | .any=>K (dP t c∧q=false∧dP t b) (bu t b)
   | _=>False
  | _=>False
 | _=>False
def r6(tb:TypeId→Option TI)(p:Nat)(o:Oper)(s:St)(K:St→Prop):Prop:=
 dV s.t (aR o.op)∧nS tb p o (bu s.t) (bb s.H) fun Φ v us=>Φ∧K ⟨bc s.t o.dst v,aM s.H us⟩
def xc(tb:TypeId→Option TI)(hg:Nat→Option J)(T:TypeId)(x y:AV)(A:Prop)(K:Prop→Nat→Prop):Prop:=match y with
 | .val (.slice none 0 0)=>match tb T with
  | some ti=>match ti.u with
   | .slice _=>match x with
    | .own r ver sz off n=>hJ hg r ver fun Ψ=>K Ψ n
    | .bs _ l=>K True l.length
    | .sl _ _ _ _ l=>K True l.length
    | _=>A
   | _=>A
  | none=>A
 | _=>A
def EM(n:Nat)(K:Bool→Prop):Prop:=∀b:Bool,(b=true→n=0)→K b
def AA(tb:TypeId→Option TI)(P:Program)(p:Nat)(o:Oper)(s:St)(K:St→Prop):Prop:=match o.op with
 | .call c=>match c.callee with
  | .value f=>dV s.t (aR o.op)∧xb P c f s (rW s o.dst K)
  | _=>r6 tb p o s K
 | .pick c a b=>oR s.t c a b fun Φ v=>Φ∧K ⟨bc s.t o.dst v,s.H⟩
 | .binOp op T x y _=>match op with
  | .eql=>xc tb (bb s.H) T (bu s.t x) (bu s.t y) (r6 tb p o s K) fun Φ n=>(dV s.t (aR o.op)∧Φ)∧EM n fun b=>K ⟨bc s.t o.dst (.val (.bool b)),s.H⟩
  | .neq=>xc tb (bb s.H) T (bu s.t x) (bu s.t y) (r6 tb p o s K) fun Φ n=>(dV s.t (aR o.op)∧Φ)∧EM n fun b=>K ⟨bc s.t o.dst (.val (.bool (!b))),s.H⟩
  | _=>r6 tb p o s K
 | _=>r6 tb p o s K
def l7(t:List AV):List Operand→Prop→Prop→Prop
 | [],_,B=>B
 | x::xs,A,B=>match x with
  | .tmp i=>match bF t i with
   | .gd _ y=>match y with
    | .any=>A
    | _=>l7 t xs A B
   | _=>l7 t xs A B
  | _=>l7 t xs A B
theorem qg{t:List AV}{A B:Prop}:∀{l:List Operand},l7 t l A B→A∨B
 | [],h=> .inr h
 | x::xs,h=>by
  unfold l7 at h
  split at h
  ·split at h
   ·split at h
    ·exact .inl h
    ·exact qg h
   ·exact qg h
  ·exact qg h
def xd(G A:Prop)(s:St)(dst:Option Tmp)(K:St→Prop)(Φ:Prop)(v:AV)(us:List (Nat×J)):Prop:=match us with
 | []=>(G→A∧Φ)∧us=[]∧K ⟨bc s.t dst (.gd G v),s.H⟩
 | _::_=>(G→(A∧Φ)∧K ⟨bc s.t dst v,aM s.H us⟩)∧(¬G→K ⟨bc s.t dst (.gd False .any),s.H⟩)
def EN(tb:TypeId→Option TI)(P:Program)(p:Nat)(o:Oper)(s:St)(G:Prop)(K:St→Prop):Prop:=match o.op with
 | .call c=>match c.callee with
  | .value f=>(G→dV s.t (aR o.op)∧xb P c f s (rW s o.dst K))∧(¬G→K ⟨bc s.t o.dst (.gd False .any),s.H⟩)
  | _=>l7 s.t (aR o.op) (¬G∧K ⟨bc s.t o.dst (.gd False .any),s.H⟩) (nS tb p o (bu s.t) (bb s.H) (xd G (dV s.t (aR o.op)) s o.dst K))
 | .pick c a b=>l7 s.t [c] (¬G∧K ⟨bc s.t o.dst (.gd False .any),s.H⟩) (oR s.t c a b fun Φ v=>(G→Φ)∧K ⟨bc s.t o.dst (.gd G v),s.H⟩)
 | _=>l7 s.t (aR o.op) (¬G∧K ⟨bc s.t o.dst (.gd False .any),s.H⟩) (nS tb p o (bu s.t) (bb s.H) (xd G (dV s.t (aR o.op)) s o.dst K))
def r7(all:List Oper)(t:List AV)(j:Nat)(b:Bool)(K:Prop→Prop):Prop:=match qe all j with
 | none=>False
 | some oj=>match oj.dst with
  | none=>False
  | some d=>match bF t d with
   | .val (.bool q)=>K (q=b)
   | .gd φ x=>match x with
    | .val (.bool q)=>K (φ∧q=b)
    | .any=>¬φ∧K False
    | _=>False
   | _=>False
def AB(tb:TypeId→Option TI)(P:Program)(p:Nat)(all:List Oper)(o:Oper)(s:St)(K:St→Prop):Prop:=match o.guard with
 | none=>AA tb P p o s K
 | some (j,b)=>r7 all s.t j b fun G=>EN tb P p o s G K
def l8(tb:TypeId→Option TI)(P:Program)(p:Nat)(all:List Oper):List Oper→(St→Prop)→St→Prop
 | [],Q,s=>Q s
 | o::rest,Q,s=>AB tb P p all o s (l8 tb P p all rest Q)

theorem EO{t:List AV}{a b:Operand}{q x y:Bool}(ha:bu t a= .val (.bool x))(hb:bu t b= .val (.bool y)):rZ a b q x y=(if q then x else y):=by
 unfold rZ
 split
 ·have h:AV.val (.bool true)=AV.val (.bool x):=ha
  simp only[AV.val.injEq,Value.bool.injEq] at h
  subst h;cases q<;>simp
 ·split
  ·have h:AV.val (.bool false)=AV.val (.bool y):=hb
   simp only[AV.val.injEq,Value.bool.injEq] at h
   subst h;cases q<;>simp
  ·cases q<;>simp
theorem EP {t : List AV} {c a b : Operand} {K : Prop → AV → Prop} (h : oR t c a b K) : ∃ Φ v, K Φ v ∧ (Φ → ∀ {E : Env} {s : St} {act : Act} {w : World}, s.t = t → Rel w0 keep E s act w →
    ∃q:Bool,act.eval c= .bool q∧ae E w v (if q then act.eval a else act.eval b)):=by
 unfold oR at h
 split at h
 rotate_left
 ·exact h.elim
 rename_i q hc
 have dE:∀{E:Env}{s:St}{act:Act}{w:World},s.t=t→Rel w0 keep E s act w→dP t c→act.eval c= .bool q:=by
  intro E s act w hs hR hg
  subst hs
  have:=hR.ik hg
  rw[hc] at this
  exact bq this
 split at h
 ·refine⟨_,_,h,fun p E s act w hs hR=>⟨q,dE hs hR p.1,?_⟩⟩
  subst hs
  rw[p.2.1];exact hR.ik p.2.2
 ·rename_i y hb
  split at h
  ·rename_i x ha
   refine⟨_,_,h,fun p E s act w hs hR=>⟨q,dE hs hR p.1,?_⟩⟩
   obtain⟨p1,p2,p3⟩:=p
   subst hs
   have key:(if q then act.eval a else act.eval b)= .bool (if q then x else y):=by
    cases q with
    | true=>have:=hR.ik (p2 rfl);rw[ha] at this;simpa using bq this
    | false=>have:=hR.ik (p3 rfl);rw[hb] at this;simpa using bq this
   rw[key,ae]
   congr 1
   exact(EO ha hb).symm
  ·refine⟨_,_,h,fun p E s act w hs hR=>⟨q,dE hs hR p.1,?_⟩⟩
   subst hs
   rw[p.2.1];exact hR.ik p.2.2
  ·exact h.elim
 ·exact h.elim
theorem AD{o:Oper}{al:Operand→Value}{c a b:Operand}(ho:o.op= .pick c a b){q:Bool}(hq:al c= .bool q)(w:World):(execOp al o).run P w= .ok (.value (if q then al a else al b)) w:=by
 unfold execOp
 simp[ho,hq,asBool]
theorem xe{o:Oper}{a:Act}{w w':World}{cv:Value}{K:Act→World→Prop}{Q:Exit→Act→World→Prop}(h:zg P o a.eval w cv w')(hK:K (a.put o.dst cv) w'):o.wp P a w K Q:=by
 rcases h with h | ⟨h,rfl⟩
 ·exact uf h hK
 ·unfold Oper.wp;rw[h];exact hK
theorem uj {tb : TypeId → Option TI} (ay : cD P tb) {p : Nat} {o : Oper} {s : St} {K : St → Prop} (h : r6 tb p o s K) {E : Env} {a : Act} {w : World} (hR : Rel w0 keep E s a w) {Q : Exit → Act → World → Prop} :
    o.wp P a w (fun a' w'=>∃s' E',Rel w0 keep E' s' a' w'∧K s') Q:=by
 obtain⟨hg,h⟩:=h
 obtain⟨Φ,v,us,⟨eb,hK⟩,hs⟩:=xa ay h
 obtain⟨cv,w',E',h1,h2,h3⟩:=hs eb E s.H w a.eval hR.hr (fun r e he=>by rw[←cj];exact he) (fun x hx=>hR.ik (l6 hg x hx))
 exact xe h1 ⟨_,E',hR.put h3 h2,hK⟩
theorem ER {p : Nat} {o : Oper} {c : Call} {f : Operand} (ho : o.op = .call c) (hc : c.callee = .value f) {s : St} {K : St → Prop} (jX : dV s.t (aR o.op)) (h : eZ P (bu s.t f) (c.args.toList.map (bu s.t)) (bb s.H) (rW s o.dst K)) {E : Env} {a : Act} {w : World} (hR : Rel w0 keep E s a w) {Q : Exit → Act → World → Prop} :
    o.wp P a w (fun a' w'=>∃s' E',Rel w0 keep E' s' a' w'∧K s') Q:=by
 unfold eZ at h
 obtain⟨fn,caps,hf,post,AE,jY⟩:=h
 have au:∀x∈aR o.op,ae E w (bu s.t x) (a.eval x):=fun x hx=>hR.ik (l6 jX x hx)
 rw[ho] at au
 simp only[aR,hc] at au
 have ju:=au f (by simp)
 rw[hf,ae] at ju
 obtain⟨cs,ju,cA⟩:=ju
 have cg:aq E w (c.args.toList.map (bu s.t)) (c.args.toList.map a.eval):=tE _ (fun x hx=>au x (by simp[hx]))
 exact EJ ho hc ju (AE E s.H w _ hR.hr (fun r e he=>by rw[←cj];exact he) (ia cg cA)) fun v w'⟨x,us,E',hp,hv,nM⟩=>⟨_,E',hR.put nM hv,jY x us hp⟩
theorem ES {o : Oper} {c : Call} {f : Operand} (ho : o.op = .call c) (hc : c.callee = .value f) {s : St} {K : St → Prop} (jX : dV s.t (aR o.op)) {rw ver : Nat} (hf : bu s.t f = .gG rw ver) (h : rY P rw ver (c.args.toList.map (bu s.t)) s.H (rW s o.dst K)) {E : Env} {a : Act} {w : World} (hR : Rel w0 keep E s a w) {Q : Exit → Act → World → Prop} :
    rX P o a w (fun a' w'=>∃s' E',Rel w0 keep E' s' a' w'∧K s') Q:=by
 unfold rY at h
 obtain⟨⟨e,he,Lt⟩,post,hy,jY⟩:=h
 intro r n nT
 have au:∀x∈aR o.op,ae E w (bu s.t x) (a.eval x):=fun x hx=>hR.ik (l6 jX x hx)
 rw[ho] at au
 simp only[aR,hc] at au
 have ju:=au f (by simp)
 rw[cj] at he
 rw[hf,ae] at ju
 have ju:=ju.2 (by rw[hR.hr.ver rw e he,Lt])
 have cg:aq E w (c.args.toList.map (bu s.t)) (c.args.toList.map a.eval):=tE _ (fun x hx=>au x (by simp[hx]))
 obtain⟨fn,tmps,gX,body,h1,h2⟩:=hy E w _ hR.hr cg r (n - 1)
 refine⟨fun _ _=>trivial,?_⟩
 have e1:o.semAt (FR r).round a.eval=execOp a.eval o:=EK nT _
 have e2:execOp a.eval o=Instr.yield (E.ρ rw) (c.args.toList.map a.eval).toArray:=by
  have e3:execOp a.eval o=Instr.yield (E.ρ rw) (#[]++c.args.map a.eval++ #[]):=by
   obtain⟨dst,op,type,pos,after,guard⟩:=o
   simp only at ho
   subst ho
   obtain⟨EI,args,ts⟩:=c
   simp only at hc
   subst hc
   unfold execOp
   simp only[resolve,ju]
   rfl
  rw[e3]
  congr 1
  apply Array.ext'
  simp
 rw[e1,e2,h1]
 refine⟨fun q=>(by cases q),RoundIn.mono h2 fun e w'⟨v,hv,x,us,E',hp,hx,nM⟩=> ?_⟩
 subst hv
 exact⟨_,E',hR.put nM hx,jY x us hp⟩
theorem ET {o : Oper} {c x y : Operand} (ho : o.op = .pick c x y) {Φ : Prop} {v : AV} {s : St} {K : St → Prop} {E : Env} {a : Act} {w : World} (hR : Rel w0 keep E s a w) (hv : ∃ q : Bool, a.eval c = .bool q ∧ ae E w v (if q then a.eval x else a.eval y)) (hK : K ⟨bc s.t o.dst v, s.H⟩) {Q : Exit → Act → World → Prop} :
    o.wp P a w (fun a' w'=>∃s' E',Rel w0 keep E' s' a' w'∧K s') Q:=by
 obtain⟨q,h1,h2⟩:=hv
 exact uf (AD ho h1 w) ⟨_,E,hR.put (Out.same hR.hr) h2,hK⟩
theorem EU {tb : TypeId → Option TI} (ay : cD P tb) {hg : Nat → Option J} {T : TypeId} {x y : AV} {A : Prop} {K : Prop → Nat → Prop} (h : xc tb hg T x y A K) : A ∨ (∃ E0 Φ n, P.underlying T = some (.slice E0) ∧ K Φ n ∧
    (Φ→∀(E:Env)(H:List J)(w:World)(u v:Value),HR E w H→(∀(r:Nat)(e:J),hg r=some e→H[r]? =some e)→ae E w x u→ae E w y v→v= .slice none 0 0∧∃a m c,u= .slice a m c∧(a=none→n=0))):=by
 unfold xc at h
 split at h
 rotate_left
 ·exact .inl h
 split at h
 rotate_left
 ·exact .inl h
 rename_i ti bT
 have hT:=(ay T ti bT).u
 split at h
 rotate_left
 ·exact .inl h
 rename_i E0 hu
 rw[hu] at hT
 split at h
 ·rename_i r ver sz off n
  obtain⟨Ψ,h,hc⟩:=jR h
  refine .inr ⟨E0,Ψ,n,hT,h,fun p E H w u v hr hh hx hy=>⟨bq hy,?_⟩⟩
  rw[ae] at hx
  obtain⟨a,c,rfl,h3,h4,h5,h6⟩:=hx.2 (hc p E H w hr hh)
  exact⟨a,n,c,rfl,fun q=>by have:=h5 q;omega⟩
 ·refine .inr ⟨E0,_,_,hT,h,fun p E H w u v hr hh hx hy=>⟨bq hy,?_⟩⟩
  rw[ae] at hx
  obtain⟨a,n,c,rfl,h3,h4,h5,h6,_⟩:=hx
  exact⟨a,n,c,rfl,fun q=>by have:=h6 q;omega⟩
 ·refine .inr ⟨E0,_,_,hT,h,fun p E H w u v hr hh hx hy=>⟨bq hy,?_⟩⟩
  rw[ae] at hx
  obtain⟨a,n,c,rfl,h3,h4,h5,h6,_⟩:=hx
  exact⟨a,n,c,rfl,fun q=>by have:=h6 q;omega⟩
 ·exact .inl h
theorem Lu {tb : TypeId → Option TI} (ay : cD P tb) {p : Nat} {o : Oper} {s : St} {K : St → Prop} (h : AA tb P p o s K) {E : Env} {a : Act} {w : World} (hR : Rel w0 keep E s a w) {Q : Exit → Act → World → Prop} :
    rX P o a w (fun a' w'=>∃s' E',Rel w0 keep E' s' a' w'∧K s') Q:=by
 unfold AA at h
 split at h
 ·rename_i c ho
  split at h
  ·rename_i f hc
   rcases EL h.2 with⟨rw,ver,hf,hy⟩ | hk
   ·exact ES ho hc h.1 hf hy hR
   ·exact kx (ER (p:=p) ho hc h.1 hk hR)
  ·exact kx (uj ay h hR)
 ·rename_i c x y ho
  obtain⟨Φ,v,⟨eb,hK⟩,hv⟩:=EP (w0:=w0) (keep:=keep) h
  exact kx (ET (Φ:=Φ) ho hR (hv eb rfl hR) hK)
 ·rename_i op T x y T' ho
  split at h
  ·rcases EU ay h with h | ⟨E0,Φ,n,hT,⟨⟨hg,eb⟩,fF⟩,hv⟩
   ·exact kx (uj ay h hR)
   ·obtain⟨h1,aa,m,c,h2,h3⟩:=hv eb E s.H w _ _ hR.hr (fun r e he=>by rw[←cj];exact he) (hR.ik (l6 hg x (by rw[ho];simp[aR]))) (hR.ik (l6 hg y (by rw[ho];simp[aR])))
    refine kx (uf (v:= .bool aa.isNone) ?_ ⟨_,E,hR.put (Out.same hR.hr) (by rw[ae]),fF aa.isNone (fun q=>h3 (by simpa using q))⟩)
    exact zv ho (by rw[h1,h2];exact oM w) (by rw[h1,h2,Lib.run_eql_slice_nil w T E0 aa m c 0 0 hT])
  ·rcases EU ay h with h | ⟨E0,Φ,n,hT,⟨⟨hg,eb⟩,fF⟩,hv⟩
   ·exact kx (uj ay h hR)
   ·obtain⟨h1,aa,m,c,h2,h3⟩:=hv eb E s.H w _ _ hR.hr (fun r e he=>by rw[←cj];exact he) (hR.ik (l6 hg x (by rw[ho];simp[aR]))) (hR.ik (l6 hg y (by rw[ho];simp[aR])))
    refine kx (uf (v:= .bool (!aa.isNone)) ?_ ⟨_,E,hR.put (Out.same hR.hr) (by rw[ae]),fF aa.isNone (fun q=>h3 (by simpa using q))⟩)
    exact zv ho (by rw[h1,h2];exact oM w) (by rw[h1,h2,run_neq_slice_nil_any w T E0 aa m c 0 0 hT])
  ·exact kx (uj ay h hR)
 ·exact kx (uj ay h hR)
theorem Lv {ops : Array Oper} {t : List AV} {j : Nat} {b : Bool} {K : Prop → Prop} (h : r7 ops.toList t j b K) : ∃ G, K G ∧ ∀ {E : Env} {s : St} {a : Act} {w : World} {o : Oper}, s.t = t → Rel w0 keep E s a w → o.guard = some (j, b) →
    (G→Region.wanted o (yielded ops a.tmps)=true)∧(¬G→Region.wanted o (yielded ops a.tmps)=false):=by
 unfold r7 at h
 split at h
 ·exact h.elim
 rename_i oj mU
 split at h
 ·exact h.elim
 rename_i d hd
 rw[rR] at mU
 have mV:(ops[j]?).bind (·.dst)=some d:=by
  have:ops[j]? =some oj:=by simpa using mU
  rw[this];exact hd
 split at h
 ·rename_i q hq
  refine⟨_,h,fun{E s a w o} hs hR ho=> ?_⟩
  have hv:=hR.get d
  rw[hs,hq] at hv
  have hy:=xf mV (bq hv)
  exact⟨fun hG=>xg ho (by rw[hy,hG]),fun hG=>oS ho (by rw[hy];simpa using hG)⟩
 ·rename_i φ x hq
  split at h
  ·rename_i q
   refine⟨_,h,fun{E s a w o} hs hR ho=> ?_⟩
   have hv:=hR.get d
   rw[hs,hq,ae] at hv
   by_cases nU:φ
   ·have hy:=xf mV (bq (hv.1 nU))
    exact⟨fun hG=>xg ho (by rw[hy,hG.2]),fun hG=>oS ho (by rw[hy];intro e;exact hG ⟨nU,by simpa using e⟩)⟩
   ·have hy:=xh mV (hv.2 nU)
    exact⟨fun hG=>absurd hG.1 nU,fun hG=>oS ho (by rw[hy];simp)⟩
  ·refine⟨False,h.2,fun{E s a w o} hs hR ho=> ?_⟩
   have hv:=hR.get d
   rw[hs,hq,ae] at hv
   have hy:=xh mV (hv.2 h.1)
   exact⟨fun hG=>hG.elim,fun hG=>oS ho (by rw[hy];simp)⟩
  ·exact h.elim
 ·exact h.elim
theorem xj{E:Env}{w:World}{G:Prop}{x:AV}{v:Value}(hG:G)(h:ae E w x v):ae E w (.gd G x) v:=by rw[ae];exact⟨fun _=>h,fun n=>absurd hG n⟩
theorem ly{E:Env}{w:World}{G:Prop}{x:AV}(hG:¬G):ae E w (.gd G x) undef:=by rw[ae];exact⟨fun h=>absurd h hG,fun _=>rfl⟩
theorem Lw {tb : TypeId → Option TI} (ay : cD P tb) {p : Nat} {ops : Array Oper} {o : Oper} {s : St} {K : St → Prop} (h : AB tb P p ops.toList o s K) {E : Env} {a : Act} {w : World} (hR : Rel w0 keep E s a w) {Q : Exit → Act → World → Prop} :
    (Region.wanted o (yielded ops a.tmps)=true∧rX P o a w (fun a' w'=>∃s' E',Rel w0 keep E' s' a' w'∧K s') Q)∨(Region.wanted o (yielded ops a.tmps)=false∧∃s' E',Rel w0 keep E' s' (a.put o.dst undef) w∧K s'):=by
 unfold AB at h
 split at h
 ·rename_i ho
  exact .inl ⟨by unfold Region.wanted;simp only[ho],Lu ay h hR⟩
 rename_i j b ho
 obtain⟨G,h,hw⟩:=Lv (w0:=w0) (keep:=keep) h
 obtain⟨jv,iB⟩:=hw rfl hR ho
 have skip:∀{x:AV},¬G→ae E w x undef→K ⟨bc s.t o.dst x,s.H⟩→∃s' E',Rel w0 keep E' s' (a.put o.dst undef) w∧K s':=by
  intro x hG hx hK
  exact⟨_,E,hR.put (Out.same hR.hr) hx,hK⟩
 have step : (nS tb p o (bu s.t) (bb s.H) (xd G (dV s.t (aR o.op)) s o.dst K)) →
     (Region.wanted o (yielded ops a.tmps)=true∧rX P o a w (fun a' w'=>∃s' E',Rel w0 keep E' s' a' w'∧K s') Q)∨(Region.wanted o (yielded ops a.tmps)=false∧∃s' E',Rel w0 keep E' s' (a.put o.dst undef) w∧K s'):=by
  intro h
  obtain⟨Φ,v,us,h,hs⟩:=xa ay h
  cases us with
  | nil=>
   obtain⟨eb,_,hK⟩:=h
   by_cases hG:G
   ·obtain⟨hg,eb⟩:=eb hG
    obtain⟨cv,w',E',h1,h2,h3⟩:=hs eb E s.H w a.eval hR.hr (fun r e he=>by rw[←cj];exact he) (fun x hx=>hR.ik (l6 hg x hx))
    exact .inl ⟨jv hG,kx (xe h1 ⟨_,E',hR.put h3 (xj hG h2),hK⟩)⟩
   ·exact .inr ⟨iB hG,skip hG (ly hG) hK⟩
  | cons u us=>
   by_cases hG:G
   ·obtain⟨⟨hg,eb⟩,hK⟩:=h.1 hG
    obtain⟨cv,w',E',h1,h2,h3⟩:=hs eb E s.H w a.eval hR.hr (fun r e he=>by rw[←cj];exact he) (fun x hx=>hR.ik (l6 hg x hx))
    exact .inl ⟨jv hG,kx (xe h1 ⟨_,E',hR.put h3 h2,hK⟩)⟩
   ·exact .inr ⟨iB hG,skip hG (ly (fun h=>h)) (h.2 hG)⟩
 have EV : l7 s.t (aR o.op) (¬ G ∧ K ⟨bc s.t o.dst (.gd False .any), s.H⟩) (nS tb p o (bu s.t) (bb s.H) (xd G (dV s.t (aR o.op)) s o.dst K)) →
     (Region.wanted o (yielded ops a.tmps)=true∧rX P o a w (fun a' w'=>∃s' E',Rel w0 keep E' s' a' w'∧K s') Q)∨(Region.wanted o (yielded ops a.tmps)=false∧∃s' E',Rel w0 keep E' s' (a.put o.dst undef) w∧K s'):=by
  intro h
  rcases qg h with⟨hG,h⟩ | h
  ·exact .inr ⟨iB hG,skip hG (ly (fun h=>h)) h⟩
  ·exact step h
 unfold EN at h
 split at h
 ·rename_i c cU
  split at h
  ·rename_i f hc
   by_cases hG:G
   ·rcases EL (h.1 hG).2 with⟨rw,ver,hf,hy⟩ | hk
    ·exact .inl ⟨jv hG,ES cU hc (h.1 hG).1 hf hy hR⟩
    ·exact .inl ⟨jv hG,kx (ER (p:=p) cU hc (h.1 hG).1 hk hR)⟩
   ·exact .inr ⟨iB hG,skip hG (ly (fun h=>h)) (h.2 hG)⟩
  ·exact EV h
 ·rename_i c x y cU
  rcases qg h with⟨hG,h⟩ | h
  ·exact .inr ⟨iB hG,skip hG (ly (fun h=>h)) h⟩
  obtain⟨Φ,v,⟨eb,hK⟩,hv⟩:=EP (w0:=w0) (keep:=keep) h
  by_cases hG:G
  ·refine .inl ⟨jv hG,kx (ET (Φ:=Φ) (v:= .gd G v) cU hR ?_ hK)⟩
   obtain⟨q,h1,h2⟩:=hv (eb hG) rfl hR
   exact⟨q,h1,xj hG h2⟩
  ·exact .inr ⟨iB hG,skip hG (ly hG) hK⟩
 ·exact EV h
theorem AG {tb : TypeId → Option TI} (ay : cD P tb) {p : Nat} {r : Option Nat} {n : Nat} {ops : Array Oper} {Q : Exit → Act → World → Prop} : ∀ {rest : List Oper} {K : St → Prop} {s : St}, l8 tb P p ops.toList rest K s → (∀ o ∈ rest, ug r o) → ∀ {E : Env} {a : Act} {w : World}, Rel w0 keep E s a w →
    (∀s' E' a' w',Rel w0 keep E' s' a' w'→K s'→Q .normal a' w')→wpListIn (FR r) n P ops Q rest a w
 | [],K,s,h,cq,E,a,w,hR,hQ=>hQ s E a w hR h
 | o::rest,K,s,h,cq,E,a,w,hR,hQ=>by
  unfold l8 at h
  unfold wpListIn
  rcases Lw ay (Q:=Q) h hR with⟨h1,h2⟩ | ⟨h1,s',E',h2,h3⟩
  ·rw[if_pos h1]
   exact Oper.wpIn_mono (fun a' w'⟨s',E',h3,h4⟩=>AG ay h4 (fun o ho=>cq o (List.mem_cons_of_mem _ ho)) h3 hQ) (h2 r n (cq o (List.mem_cons_self ..)))
  ·rw[if_neg (by rw[h1];simp)]
   exact⟨fun _ _=>trivial,AG ay h3 (fun o ho=>cq o (List.mem_cons_of_mem _ ho)) h2 hQ⟩
end

inductive Ex where
 | normal
 | exit (id:Nat)
 | ret
def Ex.to:Ex→Exit
 | .normal=> .normal
 | .exit i=> .exit i
 | .ret=> .ret
def oT(K:St→Prop)(Q:Ex→St→Prop)(e:Ex)(s:St):Prop:=match e with
 | .normal=>K s
 | .exit i=>Q (.exit i) s
 | .ret=>Q .ret s
def kR(id:Nat)(Q:Ex→St→Prop)(e:Ex)(s:St):Prop:=match e with
 | .normal=>Q .normal s
 | .exit i=>if i=id then Q .normal s else Q (.exit i) s
 | .ret=>Q .ret s
def iD(s s':St):Prop:=∀(w0:World)(keep:Bs)(E:Env)(a:Act)(w:World),Rel w0 keep E s a w→∃E',Rel w0 keep E' s' a w
def AI{σ:Type}(I:σ→St)(μ:σ→Nat)(x:σ)(Q:Ex→St→Prop)(e:Ex)(s:St):Prop:=match e with
 | .normal=>∃y,iD s (I y)∧μ y<μ x
 | .exit i=>Q (.exit i) s
 | .ret=>Q .ret s
@[irreducible] def oU (B:(Ex→St→Prop)→St→Prop) (Q:Ex→St→Prop) (s:St):Prop:=
 ∃(σ:Type)(I:σ→St)(μ:σ→Nat)(x0:σ),iD s (I x0)∧∀x,B (AI I μ x Q) (I x)
def uk(w0:World)(keep:Bs)(Q:Ex→St→Prop)(e:Exit)(a:Act)(w:World):Prop:=∃ex s E,e=ex.to∧Rel w0 keep E s a w∧Q ex s
def gx:Code→Bool
 | .skip=>true
 | .label _=>true
 | .region _ ops _=>ops.toList.all fun o=>match o.op with | .defer _=>false | _=>true
 | .seq a b=>gx a&&gx b
 | .cond _ a b=>gx a&&gx b
 | .block _ b=>gx b
 | .loop b=>gx b
 | .exit _=>true
 | .ret=>true
 | .scope b=>gx b
 | _=>false
def fa:Code→Bool
 | .seq a b=>fa a&&fa b
 | .cond _ a b=>fa a&&fa b
 | .block _ b=>fa b
 | .loop b=>fa b
 | .scope b=>fa b
 | .rangeFunc .. =>false
 | _=>true
def qh(r:Option Nat)(c:Code):Prop:=r=none∨gx c=true
theorem qh.ops{r:Option Nat}{id:Nat}{ops:Array Oper}{d:Bool}(h:qh r (.region id ops d)):∀o∈ops.toList,ug r o:=fun o ho=>h.imp (fun q=>q) fun h=>by
 simp only[gx,List.all_eq_true] at h
 have:=h o ho
 intro c hc
 rw[hc] at this
 cases this
@[irreducible] def xm (P:Program) (id:Nat) (ops:Array Oper) (K:St→Prop) (s:St):Prop:=
 ∀(w0:World)(keep:Bs)(E:Env)(a:Act)(w:World),Rel w0 keep E s a w→∀(r:Option Nat)(n:Nat),(∀o∈ops.toList,ug r o)→(Code.region id ops true).wpIn (FR r) n P (fun e a' w'=>e= .normal∧∃s' E',Rel w0 keep E' s' a' w'∧K s') a w
@[irreducible] def xn (P:Program) (g:Operand) (ps:Array Tmp) (gX body:Code) (Q:Ex→St→Prop) (s:St):Prop:=
 ∀(w0:World)(keep:Bs)(E:Env)(a:Act)(w:World),¬keep.pure→Rel w0 keep E s a w→∀n:Nat,(Code.rangeFunc g ps gX body).wpIn (FR none) n P (uk w0 keep Q) a w
def EW(c:AV)(φ:Prop)(A B:Prop):Prop:=match c with
 | .val (.bool q)=>φ∧(q=true→A)∧(q=false→B)
 | _=>False
def gm(tb:TypeId→Option TI)(P:Program)(p:Nat):Code→(Ex→St→Prop)→St→Prop
 | .skip,Q,s=>Q .normal s
 | .label _,Q,s=>Q .normal s
 | .region id ops draw,Q,s=>match draw with
  | false=>l8 tb P p ops.toList ops.toList (Q .normal) s
  | true=>xm P id ops (Q .normal) s
 | .seq a b,Q,s=>gm tb P p a (oT (gm tb P p b Q) Q) s
 | .cond c a b,Q,s=>EW (bu s.t c) (dP s.t c) (gm tb P p a Q s) (gm tb P p b Q s)
 | .block id b,Q,s=>gm tb P p b (kR id Q) s
 | .loop b,Q,s=>oU (gm tb P p b) Q s
 | .exit id,Q,s=>Q (.exit id) s
 | .ret,Q,s=>Q .ret s
 | .scope b,Q,s=>gm tb P p b Q s
 | .rangeFunc g ps gX body,Q,s=>xn P g ps gX body Q s
 | _,_,_=>False
section
variable {P:Program} {w0:World} {keep:Bs}
section
variable {r:Option Nat} {n:Nat} {Q:Exit→Act→World→Prop} {b:Frame} {a:Act} {k:List Item} {cs:List Frame} {w:World}
theorem r8{c:Code}:step P (lone (b.atR a (.code (.scope c)::k)) cs w)= .next (lone (b.atR a (.code c:: .inScope c::k)) cs w):=
 step_lone_go (by simp[stepG,stepG.exec,Frame.atR])
theorem Lx{c:Code}:step P (lone (b.atR a (.inScope c::k)) cs w)= .next (lone (b.atR a k) cs w):=
 step_lone_go (by simp[stepG,stepG.exec,Frame.atR])
theorem Ly{F:Fence}{c:Code}(h:c.wpIn F n P (Exit.noGoto Q) a w):(Code.scope c).wpIn F n P Q a w:=by
 intro b k cs AJ hb hr
 have h0:(lone (b.atR a (.code (.scope c)::k)) cs w).fenced P F:=fenced_calm hb hr rfl
 obtain⟨e,mW,mX,hq,lz⟩:=h b (.inScope c::k) cs AJ hb hr
 cases e with
 | normal=>exact⟨.normal,mW,mX,hq,.head h0 r8 (StepsIn.trans lz (.one (fenced_calm hb hr rfl) Lx))⟩
 | exit id=>exact⟨.exit id,mW,mX,hq,fun k' hk=> .head h0 r8 (lz.1 k' (by simp[exitTo,hk])),fun bf hk=>let⟨k₁,h1,h2⟩:=lz.2 bf (by simp[exitTo,hk]);⟨k₁,h1,.head h0 r8 h2⟩⟩
 | goto l=>exact hq.elim
 | ret=>exact⟨_,mW,mX,hq,.of_steps (.one h0 r8) lz⟩
 | panic ch=>exact⟨_,mW,mX,hq,.of_steps (.one h0 r8) lz⟩
 | outgrown=>exact⟨_,mW,mX,hq,.of_steps (.one h0 r8) lz⟩
end
theorem l9{tb:TypeId→Option TI}(ay:cD P tb){p:Nat}{r:Option Nat}{n:Nat}:∀{c:Code}{Q:Ex→St→Prop}{s:St},gm tb P p c Q s→qh r c→(keep.pure→fa c=true)→∀{E:Env}{a:Act}{w:World},Rel w0 keep E s a w→c.wpIn (FR r) n P (uk w0 keep Q) a w
 | .skip,Q,s,h,ho,hp,E,a,w,hR=>wpIn_skip ⟨.normal,s,E,rfl,hR,h⟩
 | .label l,Q,s,h,ho,hp,E,a,w,hR=>wpIn_label ⟨.normal,s,E,rfl,hR,h⟩
 | .region id ops draw,Q,s,h,ho,hp,E,a,w,hR=>by
  simp only[gm] at h
  split at h
  ·exact wpIn_region_list (AG ay h ho.ops hR (fun s' E' a' w' h1 h2=>⟨.normal,s',E',rfl,h1,h2⟩))
  ·unfold xm at h
   exact wpIn_mono (h w0 keep E a w hR r n ho.ops) (fun e a' w'⟨he,s',E',h1,h2⟩=>⟨.normal,s',E',he,h1,h2⟩)
 | .seq x y,Q,s,h,ho,hp,E,a,w,hR=>by
  simp only[gm] at h
  have h1:qh r x:=ho.imp (fun q=>q) fun h=>by simp only[gx,Bool.and_eq_true] at h;exact h.1
  have h2:qh r y:=ho.imp (fun q=>q) fun h=>by simp only[gx,Bool.and_eq_true] at h;exact h.2
  have p1:keep.pure→fa x=true:=fun q=>by have:=hp q;simp only[fa,Bool.and_eq_true] at this;exact this.1
  have p2:keep.pure→fa y=true:=fun q=>by have:=hp q;simp only[fa,Bool.and_eq_true] at this;exact this.2
  refine wpIn_seq (wpIn_mono (l9 ay h h1 p1 hR) fun e a' w'⟨ex,s',E',he,h3,h4⟩=> ?_)
  subst he
  cases ex with
  | normal=>exact l9 ay h4 h2 p2 h3
  | exit i=>exact⟨.exit i,s',E',rfl,h3,h4⟩
  | ret=>exact⟨.ret,s',E',rfl,h3,h4⟩
 | .cond c x y,Q,s,h,ho,hp,E,a,w,hR=>by
  simp only[gm,EW] at h
  have h1:qh r x:=ho.imp (fun q=>q) fun h=>by simp only[gx,Bool.and_eq_true] at h;exact h.1
  have h2:qh r y:=ho.imp (fun q=>q) fun h=>by simp only[gx,Bool.and_eq_true] at h;exact h.2
  have p1:keep.pure→fa x=true:=fun q=>by have:=hp q;simp only[fa,Bool.and_eq_true] at this;exact this.1
  have p2:keep.pure→fa y=true:=fun q=>by have:=hp q;simp only[fa,Bool.and_eq_true] at this;exact this.2
  split at h
  ·rename_i q hc
   have hv:=hR.ik h.1
   rw[hc] at hv
   exact wpIn_cond_split (bq hv) (fun hq=>l9 ay (h.2.1 hq) h1 p1 hR) (fun hq=>l9 ay (h.2.2 hq) h2 p2 hR)
  ·exact h.elim
 | .block id b,Q,s,h,ho,hp,E,a,w,hR=>by
  simp only[gm] at h
  refine wpIn_block (wpIn_mono (l9 ay h (ho.imp (fun q=>q) fun h=>h) (fun q=>hp q) hR) fun e a' w'⟨ex,s',E',he,h1,h2⟩=> ?_)
  subst he
  cases ex with
  | normal=>exact⟨.normal,s',E',rfl,h1,h2⟩
  | exit i=>
   simp only[Ex.to,Exit.inBlock]
   simp only[kR] at h2
   split
   ·rename_i hi;rw[if_pos hi] at h2;exact⟨.normal,s',E',rfl,h1,h2⟩
   ·rename_i hi;rw[if_neg hi] at h2;exact⟨.exit i,s',E',rfl,h1,h2⟩
  | ret=>exact⟨.ret,s',E',rfl,h1,h2⟩
 | .loop b,Q,s,h,ho,hp,E,a,w,hR=>by
  simp only[gm,oU] at h
  obtain⟨σ,I,μ,x0,h0,hI⟩:=h
  obtain⟨E0,qi⟩:=h0 w0 keep E a w hR
  intro b' k cs AJ hb hr
  have key : ∀ (m : Nat) (x : σ) (E : Env) (a : Act) (w : World), μ x = m → Rel w0 keep E (I x) a w →
      ∃e a' w',uk w0 keep Q e a' w'∧ArrivesIn (Machine.fenced P (FR r)) P (lone (b'.atR a (.code b:: .inLoop b::k)) cs w) b' k cs e a' w':=by
   intro m
   induction m using Nat.strongRecOn with
   | _ m ih=>
    intro x E a w hn hR
    obtain⟨e,mW,mX,⟨ex,s',E',he,h1,h2⟩,lz⟩:=l9 ay (r:=r) (n:=n) (hI x) (ho.imp (fun q=>q) fun h=>h) (fun q=>hp q) hR b' (.inLoop b::k) cs AJ hb hr
    subst he
    cases ex with
    | normal=>
     obtain⟨y,hle,ah⟩:=h2
     obtain⟨E2,qj⟩:=hle w0 keep E' mW mX h1
     obtain⟨Lz,LA,LB,LC,LD⟩:=ih (μ y) (hn▸ah) y E2 mW mX rfl qj
     exact⟨Lz,LA,LB,LC,.of_steps (StepsIn.trans lz (.one (fenced_calm hb hr rfl) stepR_inLoop)) LD⟩
    | exit id=>exact⟨_,mW,mX,⟨.exit id,s',E',rfl,h1,h2⟩,.pass (x:= .inLoop b) rfl (fun _ _=> .inl (by simp[Ex.to])) lz⟩
    | ret=>exact⟨_,mW,mX,⟨.ret,s',E',rfl,h1,h2⟩,.pass (x:= .inLoop b) rfl (fun _ _=> .inl (by simp[Ex.to])) lz⟩
  obtain⟨e,a',w',hq,lz⟩:=key _ x0 E0 a w rfl qi
  exact⟨e,a',w',hq,.of_steps (.one (fenced_calm hb hr rfl) stepR_loop) lz⟩
 | .exit id,Q,s,h,ho,hp,E,a,w,hR=>wpIn_exit ⟨.exit id,s,E,rfl,hR,h⟩
 | .ret,Q,s,h,ho,hp,E,a,w,hR=>wpIn_ret ⟨.ret,s,E,rfl,hR,h⟩
 | .scope b,Q,s,h,ho,hp,E,a,w,hR=>by
  simp only[gm] at h
  refine Ly (wpIn_mono (l9 ay h (ho.imp (fun q=>q) fun h=>h) (fun q=>hp q) hR) fun e a' w'⟨ex,s',E',he,h1,h2⟩=> ?_)
  subst he
  cases ex<;>exact⟨_,s',E',rfl,h1,h2⟩
 | .rangeFunc g ps gX body,Q,s,h,ho,hp,E,a,w,hR=>by
  simp only[gm,xn] at h
  rcases ho with rfl | ho
  ·exact h w0 keep E a w (fun q=>by have:=hp q;cases this) hR n
  ·cases ho
 | .goto _,Q,s,h,ho,hp,E,a,w,hR=>h.elim
 | .refuse _,Q,s,h,ho,hp,E,a,w,hR=>h.elim
theorem AK{tb:TypeId→Option TI}(ay:cD P tb){p:Nat}{c:Code}{Q:Ex→St→Prop}{s:St}(h:gm tb P p c Q s)(hp:keep.pure→fa c=true){E:Env}{a:Act}{w:World}(hR:Rel w0 keep E s a w):c.wp P (uk w0 keep Q) a w:=
 (wpIn_wide (n:=0)).1 (l9 (r:=none) ay h (.inl rfl) hp hR)

def jZ:List AV→List AV→Prop
 | [],[]=>True
 | x::xs,y::ys=>(match y with | .any=>True | y=>x=y)∧jZ xs ys
 | _,_=>False
def jw:List J→List J→Prop
 | [],[]=>True
 | x::xs,y::ys=>(match y.bd with | .dead=>x.ver=y.ver | _=>x=y)∧jw xs ys
 | _,_=>False
theorem EX:∀{xs ys:List AV},jZ xs ys→xs.length=ys.length∧∀(i:Nat) y,ys[i]? =some y→y= .any∨xs[i]? =some y
 | [],[],_=>⟨rfl,by simp⟩
 | [],_::_,h=>h.elim
 | _::_,[],h=>h.elim
 | x::xs,y::ys,h=>by
  obtain⟨h1,h2⟩:=EX h.2
  refine⟨by simp[h1],fun i z hz=> ?_⟩
  cases i with
  | zero=>
   simp at hz;subst hz
   have:=h.1
   split at this
   ·exact .inl rfl
   ·right;simp[this]
  | succ i=>simpa using h2 i z (by simpa using hz)
theorem EY:∀{xs ys:List J},jw xs ys→∀(i:Nat)(y:J),ys[i]? =some y→∃x:J,xs[i]? =some x∧(y.bd= .dead∧x.ver=y.ver∨x=y)
 | [],[],_=>by simp
 | [],_::_,h=>h.elim
 | _::_,[],h=>h.elim
 | x::xs,y::ys,h=>by
  intro i z hz
  cases i with
  | zero=>
   simp at hz;subst hz
   refine⟨x,rfl,?_⟩
   have:=h.1
   split at this
   ·rename_i hd;exact .inl ⟨hd,this⟩
   ·exact .inr this
  | succ i=>simpa using EY h.2 i z (by simpa using hz)
theorem EZ:∀{xs ys:List J},jw xs ys→xs.length=ys.length
 | [],[],_=>rfl
 | [],_::_,h=>h.elim
 | _::_,[],h=>h.elim
 | x::xs,y::ys,h=>by simp[EZ h.2]
theorem r9{s s':St}(ht:jZ s.t s'.t)(hH:jw s.H s'.H):iD s s':=by
 intro w0 keep E a w hR
 obtain⟨h1,h2⟩:=EX ht
 have hg:=EY hH
 have hl:∀(r:Nat)(e:J),s'.H[r]? =some e→bN E r e→∃e0:J,s.H[r]? =some e0∧e0=e:=by
  intro r e he hl
  obtain⟨x,hx,h3 | h3⟩:=hg r e he
  ·have:=hl.1;rw[h3.1] at this;cases this
  ·exact⟨x,hx,h3⟩
 have hb:∀(r:Nat)(e:J)(b:Nat),s'.H[r]? =some e→aB E r e b→s.H[r]? =some e:=by
  intro r e b he hl
  obtain⟨x,hx,h3 | h3⟩:=hg r e he
  ·obtain⟨v,bd⟩:=e
   simp only at h3
   rw[h3.1] at hl
   exact absurd hl aB.dead
  ·rw[hx,h3]
 refine⟨E,⟨by rw[←h1];exact hR.len,fun i x hx=> ?_,hR.defers,⟨?_,?_,?_,?_,hR.hr.cX,?_,?_,hR.hr.gl,?_⟩,⟨hR.fr.os,hR.fr.tape,hR.fr.output,hR.fr.size,hR.fr.block,hR.fr.grow,?_⟩,hR.ext,hR.aC,?_⟩⟩
 ·rcases h2 i x hx with rfl | h
  ·simp only[ae]
  ·exact hR.tmps i x h
 ·intro r e he
  obtain⟨x,hx,h3 | h3⟩:=hg r e he
  ·rw[hR.hr.ver r x hx];exact h3.2
  ·subst h3;exact hR.hr.ver r x hx
 ·intro r e he fM
  obtain⟨x,hx,rfl⟩:=hl r e he fM
  exact hR.hr.bS r x hx fM
 ·intro r e he ha
  obtain⟨x,hx,h3 | h3⟩:=hg r e he
  ·rw[h3.1];rfl
  ·subst h3;exact hR.hr.abs r x hx ha
 ·intro r r' e e' b he kM fM jx
  exact hR.hr.inj r r' e e' b (hb r e b he fM) (hb r' e' b kM jx) fM jx
 ·intro r e b he fM
  exact hR.hr.dC r e b (hb r e b he fM) fM
 ·intro r hr
  exact hR.hr.top r (by rw[EZ hH];exact hr)
 ·intro r v ls he
  obtain⟨x,hx,h3 | h3⟩:=hg r _ he
  ·cases h3.1
  ·exact hR.hr.az r v ls (by rw[hx,h3])
 ·intro r e b he fM
  exact hR.fr.rows r e b (hb r e b he fM) fM
 ·intro r e b he fM
  exact hR.rows r e b (hb r e b he fM) fM

def jy(w:World):Env:={ρ:=fun _=>w.heap.size,ver:=fun _=>0,aC:=fun z b=>z=0∧b<w.heap.size,abs:=fun _=>False,pl:=fun _ _=>none}
def cL:Nat→List J
 | 0=>[]
 | n+1=>⟨0,.dead⟩::cL n
def dg:Nat→List AV
 | 0=>[]
 | n+1=> .val undef::dg n
theorem sb:∀{n r:Nat}{e:J},(cL n)[r]? =some e→e=⟨0,.dead⟩
 | 0,_,_,h=>by simp[cL] at h
 | n+1,0,_,h=>by simp[cL] at h;exact h.symm
 | n+1,r+1,_,h=>sb (n:=n) (r:=r) (by simpa [cL] using h)
theorem E4:∀n,(dg n).length=n
 | 0=>rfl
 | n+1=>by simp[dg,E4 n]
theorem E5:∀{n r:Nat}{x:AV},(dg n)[r]? =some x→x= .val undef
 | 0,_,_,h=>by simp[dg] at h
 | n+1,0,_,h=>by simp[dg] at h;exact h.symm
 | n+1,r+1,_,h=>E5 (n:=n) (r:=r) (by simpa [dg] using h)
def Spec(P:Program)(f:FuncId)(args:List AV)(H0:List J)(post:AV→List J→Prop):Prop:=
 ∀(w:World)(E:Env)(cargs:List Value),HR E w H0→aq E w args cargs→
  Calls P f cargs.toArray w fun e w'=>∃v x H E',e= .returned v∧post x H∧ae E' w' x v∧HR E' w' H∧Ext E E' w w'∧(∀z b,E'.aC z b→E.aC z b∨w.heap.size≤b∨Hb E H0 b)∧H0.length≤H.length∧(∀(r:Nat)(e:J)(b:Nat),H[r]? =some e→aB E' r e b→w.heap.size≤b∨∃(r0:Nat)(e0:J),H0[r0]? =some e0∧aB E r0 e0 b)∧Fr w (fun k=>∀(r:Nat)(e:J),H0[r]? =some e→¬aB E r e k) E' H w'
def qk(tb:TypeId→Option TI)(t:List AV)(H:List J):List ResultVar→(Prop→List AV→Prop)→Prop
 | [],K=>K True []
 | .tmp i::rs,K=>qk tb t H rs fun Φ l=>K (iX (bF t i)∧Φ) (dO (bF t i)::l)
 | .cell i T::rs,K=>match tb T with
  | none=>False
  | some ti=>match dO (bF t i) with
   | .ref r ver sz k j=>match bb H r with
    | none=>False
    | some e=>wN e.bd sz k fun Φ cells=>oL ti (dc cells j) fun Ψ v=>qk tb t H rs fun LF l=>K (iX (bF t i)∧ver=e.ver∧Φ∧Ψ∧LF) (v::l)
   | _=>False
def lA:List AV→AV
 | [x]=>x
 | l=> .aD l
def uo(tb:TypeId→Option TI)(rs:List ResultVar)(post:AV→List J→Prop)(e:Ex)(s:St):Prop:=match e with
 | .exit _=>False
 | _=>qk tb s.t s.H rs fun Φ l=>Φ∧post (lA l) s.H
def ql(tmps:Array Value):ResultVar→Sem Value
 | .tmp t=>pure (tmps.getD t undef)
 | .cell a t=>do loadVar t (←asAddr (tmps.getD a undef))
theorem AL {tb : TypeId → Option TI} (ay : cD P tb) {t : List AV} {H : List J} : ∀ {rs : List ResultVar} {K : Prop → List AV → Prop}, qk tb t H rs K →
    ∃Φ l,K Φ l∧(Φ→∀{E:Env}{s:St}{a:Act}{w:World},s.t=t→s.H=H→Rel w0 keep E s a w→
     ∃vs:List Value,aq E w l vs∧(rs.mapM (m:=Sem) (ql a.tmps)).run P w= .ok vs w)
 | [],K,h=>⟨_,_,h,fun _{E s a w} _ _ _=>⟨[],by simp[aq],by simp⟩⟩
 | .tmp i::rs,K,h=>by
  simp only[qk] at h
  obtain⟨Φ,l,h,hl⟩:=AL ay h
  refine⟨_,_,h,fun p{E s a w} hs hH hR=> ?_⟩
  obtain⟨vs,h1,h2⟩:=hl p.2 hs hH hR
  refine⟨a.tmps.getD i undef::vs,?_,?_⟩
  ·simp only[aq]
   exact⟨_,_,rfl,Ax (by have:=hR.get i;rw[hs] at this;exact this) p.1,h1⟩
  ·have e1:(ql a.tmps (.tmp i)).run P w= .ok (a.tmps.getD i undef) w:=rfl
   simp only[List.mapM_cons,Sem.run_bind,e1,h2,Sem.run_pure,Result.andThen_ok]
 | .cell i T::rs,K,h=>by
  simp only[qk] at h
  split at h
  ·exact h.elim
  rename_i ti bT
  split at h
  rotate_left
  ·exact h.elim
  rename_i r ver sz k j hx
  split at h
  ·exact h.elim
  rename_i e he
  obtain⟨UQ,ys,h,hb⟩:=DZ h
  obtain⟨Ψ,v,h,fM⟩:=rH (ay T ti bT) h
  obtain⟨Φ,l,h,hl⟩:=AL ay h
  refine⟨_,_,h,fun p{E s a w} hs hH hR=> ?_⟩
  obtain⟨p1,p2,p3,p4,p5⟩:=p
  obtain⟨vs,h1,h2⟩:=hl p5 hs hH hR
  have hv:=hR.get i
  rw[hs] at hv
  have hv:=Ax hv p1
  rw[hx,ae] at hv
  rw[cj,←hH] at he
  have dx:=hv.2 (p2.trans (hR.hr.ver r e he).symm)
  obtain⟨ek,kI⟩:=hb p3
  obtain⟨cs,h5,h6,h7⟩:=hR.hr.cells he ek
  obtain⟨cv,iR,_,eL⟩:=fM p4 E w cs h6
  have eL:=eL (E.ρ r) (k*e.bd.sz) h7
  refine⟨cv::vs,?_,?_⟩
  ·simp only[aq]
   exact⟨_,_,rfl,iR,h1⟩
  ·rw[kI] at dx
   have e1:(ql a.tmps (.cell i T)).run P w= .ok cv w:=by
    simp only[ql,dx,asAddr,Sem.run_bind,Sem.run_pure,Result.andThen_ok,eL]
   simp only[List.mapM_cons,Sem.run_bind,e1,h2,Sem.run_pure,Result.andThen_ok]
theorem xo {tb : TypeId → Option TI} (ay : cD P tb) {fn : Func} {rs : List ResultVar} (ma : fn.results = rs.toArray) {post : AV → List J → Prop} {e : Ex} {s : St} (h : uo tb rs post e s) {E : Env} {a : Act} {w : World} (hR : Rel w0 keep E s a w) :
    (e= .normal∨e= .ret)∧∃v x,(results fn a.tmps).run P w= .ok v w∧ae E w x v∧post x s.H:=by
 have key:qk tb s.t s.H rs (fun Φ l=>Φ∧post (lA l) s.H)→∃v x,(results fn a.tmps).run P w= .ok v w∧ae E w x v∧post x s.H:=by
  intro h
  obtain⟨Φ,l,⟨eb,hp⟩,hl⟩:=AL (w0:=w0) (keep:=keep) ay h
  obtain⟨vs,h1,h2⟩:=hl eb rfl rfl hR
  have hlen:=(eX h1).1
  have h3:(results fn a.tmps).run P w= .ok (if h:vs.toArray.size=1 then vs.toArray[0] else .tuple vs.toArray) w:=by
   have e0:results fn a.tmps=(do
       let vs←fn.results.mapM (ql a.tmps)
       pure (if h:vs.size=1 then vs[0] else .tuple vs)):=rfl
   rw[e0,ma,Sem.run_bind,List.mapM_toArray]
   have e2:(Functor.map List.toArray (rs.mapM (m:=Sem) (ql a.tmps)))=((rs.mapM (m:=Sem) (ql a.tmps)) >>= fun l=>pure (List.toArray l)):=rfl
   rw[e2,Sem.run_bind,h2]
   rfl
  refine⟨_,lA l,h3,?_,hp⟩
  cases l with
  | nil=>
   have:vs=[]:=List.eq_nil_of_length_eq_zero (by simpa using hlen.symm)
   subst this
   simp only[lA,ae]
   exact⟨[],rfl,by simp[aq]⟩
  | cons x l=>
   cases l with
   | nil=>
    rw[aq] at h1
    obtain⟨u,us,rfl,h4,h5⟩:=h1
    rw[aq] at h5
    subst h5
    simpa [lA] using h4
   | cons y l=>
    have:¬vs.toArray.size=1:=by simp at hlen⊢;omega
    rw[dif_neg this]
    simp only[lA,ae]
    exact⟨vs,rfl,h1⟩
 cases e with
 | normal=>exact⟨.inl rfl,key h⟩
 | ret=>exact⟨.inr rfl,key h⟩
 | exit i=>exact h.elim
def oV(E:Env)(H0:List J)(pu:Prop):Bs:=⟨fun k=>∀(r:Nat)(e:J),H0[r]? =some e→¬aB E r e k,E,fun b=>∃(r:Nat)(e0:J),H0[r]? =some e0∧aB E r e0 b,pu⟩
theorem xp {fn : Func} {n : Nat} (hn : fn.ntmps = n) {args : List AV} {H0 : List J} {w : World} {E : Env} {cargs : List Value} (hr : HR E w H0) (cg : aq E w args cargs) (m : Nat) (pu : Prop) :
    Rel w (oV E H0 pu) E ⟨args++dg (n - args.length),H0++cL m⟩ {tmps:=cargs.toArray++Array.replicate (fn.ntmps - cargs.toArray.size) undef,defers:=[]} w:=by
 have hE:=hr.top
 have hlen:=(eX cg).1
 refine Rel.mk ?_ ?_ ⟨fun _=>rfl,Marks.nil _ _ _⟩ ?_ ?_ (Ext.refl _ _) (fun _ _ h=> .inl h) ?_
 ·simp[E4,hn,hlen]
 ·intro i x hx
  rw[List.getElem?_append] at hx
  split at hx
  ·rename_i hi
   obtain⟨v,hv,tZ⟩:=(eX cg).2 i x hx
   have ah:=(List.getElem?_eq_some_iff.1 hv).1
   have:(cargs.toArray++Array.replicate (fn.ntmps - cargs.toArray.size) undef).getD i undef=v:=by
    simp only[Array.getD_eq_getD_getElem?]
    rw[Array.getElem?_append_left (by simpa using ah)]
    simp[hv]
   rw[this];exact tZ
  ·rename_i hi
   have j4:=E5 hx
   subst j4
   rw[ae]
   simp only[Array.getD_eq_getD_getElem?]
   rw[Array.getElem?_append_right (by simp;omega)]
   rw[Array.getElem?_replicate]
   split<;>rfl
 ·have aI:∀(r:Nat)(e:J),(H0++cL m)[r]? =some e→H0[r]? =some e∨(H0.length≤r∧e=⟨0,.dead⟩):=by
    intro r e he
    rw[List.getElem?_append] at he
    split at he
    ·exact .inl he
    ·exact .inr ⟨by omega,sb he⟩
  refine⟨?_,?_,?_,?_,hr.cX,?_,?_,hr.gl,?_⟩
  ·intro r e he
   rcases aI r e he with h1 | ⟨h1,rfl⟩
   ·exact hr.ver r e h1
   ·exact(hE r h1).1
  ·intro r e he hl
   rcases aI r e he with h1 | ⟨h1,rfl⟩
   ·exact hr.bS r e h1 hl
   ·cases hl.1
  ·intro r e he ha
   rcases aI r e he with h1 | ⟨h1,rfl⟩
   ·exact hr.abs r e h1 ha
   ·rfl
  ·intro r r' e e' b he kM hl bA
   rcases aI r e he with h1 | ⟨h1,rfl⟩
   ·rcases aI r' e' kM with h2 | ⟨h2,rfl⟩
    ·exact hr.inj r r' e e' b h1 h2 hl bA
    ·exact absurd bA aB.dead
   ·exact absurd hl aB.dead
  ·intro r e b he hl
   rcases aI r e he with h1 | ⟨h1,rfl⟩
   ·exact hr.dC r e b h1 hl
   ·exact absurd hl aB.dead
  ·intro r bf
   rw[List.length_append] at bf
   exact hr.top r (by omega)
  ·intro r v ls he
   rcases aI r _ he with h1 | ⟨h1,h2⟩
   ·exact hr.az r v ls h1
   ·cases h2
 ·refine⟨rfl,rfl,rfl,Nat.le_refl _,fun _ _ _=>rfl,fun _ cur T fz h=>⟨cur,T,fz,h,Nat.le_refl _⟩,fun r e b he hl _ hk=> ?_⟩
  rw[List.getElem?_append] at he
  split at he
  ·exact hk r e he hl
  ·have:=sb he;subst this;exact absurd hl aB.dead
 ·intro r e b he hl
  rw[List.getElem?_append] at he
  split at he
  ·exact .inr ⟨r,e,he,hl⟩
  ·have:=sb he;subst this;exact absurd hl aB.dead
theorem ax {tb : TypeId → Option TI} (ay : cD P tb) {f : FuncId} {fn : Func} {c : Code} {n : Nat} {rs : List ResultVar} (hf : P.funcs[f]? = some fn) (hb : fn.body = some c) (hn : fn.ntmps = n) (ma : fn.results = rs.toArray)
    {args:List AV} {H0:List J} {post:AV→List J→Prop} (h:gm tb P H0.length c (uo tb rs fun x H=>H0.length≤H.length∧post x H) ⟨args++dg (n - args.length),H0++cL n⟩) (uq:fa c=true:=by kernel_rfl):Spec P f args H0 post:=by
 intro w E cargs hr cg
 refine calls_of_wp hf hb (wp_mono (AK (keep:=oV E H0 True) ay h (fun _=>uq) (xp hn hr cg n True)) ?_)
 rintro e a w' ⟨ex,s,E',rfl,hR,hQ⟩
 obtain⟨hex,v,x,h1,h2,h3⟩:=xo ay ma hQ hR
 have hx:Ext E E' w w':=hR.ext
 rcases hex with rfl | rfl
 ·exact⟨hR.defers.1 trivial,v,h1,v,x,s.H,E',rfl,h3.2,h2,hR.hr,hx,hR.aC,h3.1,hR.rows,hR.fr⟩
 ·exact⟨hR.defers.1 trivial,v,h1,v,x,s.H,E',rfl,h3.2,h2,hR.hr,hx,hR.aC,h3.1,hR.rows,hR.fr⟩
end

structure Ren where
 σ:Nat→Nat
 δ:Nat→Nat
mutual
def bJ(R:Ren):AV→AV
 | .any=> .any
 | .val v=> .val v
 | .agg l=> .agg (cm R l)
 | .aD l=> .aD (cm R l)
 | .bs z l=> .bs z l
 | .sl z sz f d l=> .sl z sz (fun a=>cm R (f a)) d l
 | .own r ver sz off n=> .own (R.σ r) (ver+R.δ r) sz off n
 | .ref r ver sz i j=> .ref (R.σ r) (ver+R.δ r) sz i j
 | .cp z cells j=> .cp z (cm R cells) j
 | .clo f caps=> .clo f (cm R caps)
 | .gG r ver=> .gG (R.σ r) (ver+R.δ r)
 | .pl r ver i off n=> .pl (R.σ r) (ver+R.δ r) i off n
 | .iQ r ver i k=> .iQ (R.σ r) (ver+R.δ r) i k
 | .gd φ x=> .gd φ (bJ R x)
def cm(R:Ren):List AV→List AV
 | []=>[]
 | x::xs=>bJ R x::cm R xs
end
mutual
def cQ(D:Nat→Prop):AV→Prop
 | .any=>True
 | .val v=>True
 | .agg l=>cR D l
 | .aD l=>cR D l
 | .bs z l=>True
 | .sl z sz f d l=>∀a,cR D (f a)
 | .own r ver sz off n=>D r
 | .ref r ver sz i j=>D r
 | .cp z cells j=>cR D cells
 | .clo f caps=>cR D caps
 | .gG r ver=>D r
 | .pl r ver i off n=>D r
 | .iQ r ver i k=>D r
 | .gd φ x=>cQ D x
def cR(D:Nat→Prop):List AV→Prop
 | []=>True
 | x::xs=>cQ D x∧cR D xs
end
structure qm(D:Nat→Prop)(R:Ren)(E Ec:Env):Prop where
 ver:∀r,D r→Ec.ver (R.σ r)=E.ver r+R.δ r
 dM:∀r,D r→Ec.ρ (R.σ r)=E.ρ r
 abs:∀r,D r→(Ec.abs (R.σ r)↔E.abs r)
 aC:∀z b,Ec.aC z b↔E.aC z b
 pl:∀r,D r→Ec.pl (R.σ r)=E.pl r
theorem E6(R:Ren):∀(xs:List AV),(cm R xs).length=xs.length
 | []=>by simp[cm]
 | x::xs=>by simp[cm,E6 R xs]
mutual
theorem AM{D:Nat→Prop}{R:Ren}{E Ec:Env}{w:World}(C:qm D R E Ec):∀(x:AV)(v:Value),cQ D x→(ae E w x v↔ae Ec w (bJ R x) v)
 | .any,v,_=>by simp only[bJ,ae]
 | .val u,v,_=>by simp only[bJ,ae]
 | .agg l,v,h=>by
  simp only[bJ,ae]
  rw[cQ] at h
  exact exists_congr fun cs=>and_congr_right fun _=>mb C l cs h
 | .aD l,v,h=>by
  simp only[bJ,ae]
  rw[cQ] at h
  exact exists_congr fun cs=>and_congr_right fun _=>mb C l cs h
 | .bs z l,v,_=>by simp only[bJ,ae,C.aC]
 | .sl z sz f d l,v,h=>by
  simp only[bJ,ae,C.aC]
  rw[cQ] at h
  refine exists_congr fun a=>exists_congr fun n=>exists_congr fun c=>and_congr_right fun _=>and_congr_right fun _=>and_congr_right fun _=>and_congr_right fun _=>and_congr_right fun _=> ?_
  refine forall_congr' fun i=>forall_congr' fun x=>forall_congr' fun hx=>exists_congr fun b=>exists_congr fun o=>exists_congr fun cs=>and_congr_right fun _=>and_congr_right fun _=>and_congr_right fun _=> ?_
  exact and_congr_left fun _=>mb C (f x) cs (h x)
 | .own r ver sz off n,v,h=>by
  simp only[bJ,ae]
  rw[cQ] at h
  rw[C.ver r h,C.dM r h]
  have e1:(ver+R.δ r≤E.ver r+R.δ r)↔ver≤E.ver r:=by omega
  have e2:(ver+R.δ r=E.ver r+R.δ r)↔ver=E.ver r:=by omega
  rw[e1,e2]
  have e3:(¬Ec.abs (R.σ r))↔¬E.abs r:=not_congr (C.abs r h)
  simp only[e3]
 | .ref r ver sz i j,v,h=>by
  simp only[bJ,ae]
  rw[cQ] at h
  rw[C.ver r h,C.dM r h]
  have e1:(ver+R.δ r≤E.ver r+R.δ r)↔ver≤E.ver r:=by omega
  have e2:(ver+R.δ r=E.ver r+R.δ r)↔ver=E.ver r:=by omega
  rw[e1,e2]
 | .cp z cells j,v,h=>by
  simp only[bJ,ae,C.aC]
  rw[cQ] at h
  exact exists_congr fun b=>exists_congr fun o=>exists_congr fun cs=>and_congr_right fun _=>and_congr_right fun _=>and_congr_left fun _=>mb C cells cs h
 | .clo f caps,v,h=>by
  simp only[bJ,ae]
  rw[cQ] at h
  exact exists_congr fun cs=>and_congr_right fun _=>mb C caps cs h
 | .gG r ver,v,h=>by
  simp only[bJ,ae]
  rw[cQ] at h
  rw[C.ver r h,C.dM r h]
  exact⟨fun⟨a,b⟩=>⟨by omega,fun e=>b (by omega)⟩,fun⟨a,b⟩=>⟨by omega,fun e=>b (by omega)⟩⟩
 | .pl r ver i off n,v,h=>by
  simp only[bJ,ae]
  rw[cQ] at h
  rw[C.ver r h,C.pl r h]
  exact⟨fun⟨a,b⟩=>⟨by omega,fun e=>b (by omega)⟩,fun⟨a,b⟩=>⟨by omega,fun e=>b (by omega)⟩⟩
 | .iQ r ver i k,v,h=>by
  simp only[bJ,ae]
  rw[cQ] at h
  rw[C.ver r h,C.pl r h]
  exact⟨fun⟨a,b⟩=>⟨by omega,fun e=>b (by omega)⟩,fun⟨a,b⟩=>⟨by omega,fun e=>b (by omega)⟩⟩
 | .gd φ x,v,h=>by
  simp only[bJ,ae]
  rw[cQ] at h
  exact and_congr_left fun _=>forall_congr' fun _=>AM C x v h
theorem mb{D:Nat→Prop}{R:Ren}{E Ec:Env}{w:World}(C:qm D R E Ec):∀(xs:List AV)(vs:List Value),cR D xs→(aq E w xs vs↔aq Ec w (cm R xs) vs)
 | [],vs,_=>by simp only[cm,aq]
 | x::xs,vs,h=>by
  simp only[cm,aq]
  rw[cR] at h
  exact exists_congr fun v=>exists_congr fun dm=>and_congr_right fun _=>and_congr (AM C x v h.1) (mb C xs dm h.2)
end
def bU(R:Ren):Bd→Bd
 | .dead=> .dead
 | .bytes l=> .bytes l
 | .row sz f d l=> .row sz (fun a=>cm R (f a)) d l
 | .obj l=> .obj (cm R l)
 | .lp i tR st=> .lp i (cm R tR) st
 | .az ls=> .az ls
def dr(D:Nat→Prop):Bd→Prop
 | .dead=>True
 | .bytes _=>True
 | .row _ f _ _=>∀a,cR D (f a)
 | .obj l=>cR D l
 | .lp _ tR _=>cR D tR
 | .az _=>True
theorem AN{R:Ren}{b:Bd}{i:Nat}:(bU R b).at i=(b.at i).map (cm R):=by
 cases b with
 | dead=>rfl
 | bytes l=>simp only[bU,Bd.at,Option.map_map,Function.comp_def,cm,bJ]
 | row sz f d l=>simp only[bU,Bd.at,Option.map_map,Function.comp_def]
 | obj l=>simp only[bU,Bd.at];split<;>rfl
 | lp=>rfl
 | az=>rfl
theorem j5{R:Ren}{b:Bd}:(bU R b).sz=b.sz∧(bU R b).count=b.count∧(bU R b).live=b.live:=by
 cases b<;>simp[bU,Bd.sz,Bd.count,Bd.live,E6]
theorem AO{R:Ren}{b:Bd}:(bU R b).jq=b.jq:=by cases b<;>rfl
theorem E7{R:Ren}{b:Bd}:(bU R b).gY=b.gY:=by cases b<;>rfl
theorem xq{R:Ren}{b:Bd}{ls:List (List UInt8)}(h:bU R b= .az ls):b= .az ls:=by cases b<;>simp only[bU] at h<;>first | (cases h;done) | exact h
theorem qm.aQ{D:Nat→Prop}{R:Ren}{E Ec:Env}(C:qm D R E Ec){r:Nat}(h:D r)(e:J)(v b:Nat):aB E r e b↔aB Ec (R.σ r) ⟨v,bU R e.bd⟩ b:=by
 unfold aB bN
 simp only[(j5 (R:=R) (b:=e.bd)).2.2,E7,C.dM r h,C.abs r h,C.pl r h]
theorem AP{D:Nat→Prop}{b:Bd}(h:dr D b){i:Nat}{ys:List AV}(hy:b.at i=some ys):cR D ys:=by
 cases b with
 | dead=>simp[Bd.at] at hy
 | bytes l=>
  simp only[Bd.at,Option.map_eq_some_iff] at hy
  obtain⟨x,_,rfl⟩:=hy
  simp[cR,cQ]
 | row sz f d l=>
  simp only[Bd.at,Option.map_eq_some_iff] at hy
  obtain⟨x,_,rfl⟩:=hy
  exact h x
 | obj l=>
  simp only[Bd.at] at hy
  split at hy
  ·cases hy;exact h
  ·cases hy
 | lp=>simp[Bd.at] at hy
 | az=>simp[Bd.at] at hy
theorem fm.E8{D:Nat→Prop}{R:Ren}{E Ec:Env}{w:World}(C:qm D R E Ec){b:Nat}{bd:Bd}(hon:dr D bd):fm E w b bd↔fm Ec w b (bU R bd):=by
 obtain⟨e1,e2,e3⟩:=j5 (R:=R) (b:=bd)
 constructor
 ·intro h
  refine⟨fun hl=> ?_,fun i tR st e=> ?_⟩
  rotate_left
  ·cases cG:bd<;>rw[cG] at e<;>first | (cases e;done) | skip
   rename_i i' E9 Fa
   simp only[bU,Bd.lp.injEq] at e
   obtain⟨rfl,rfl,rfl⟩:=e
   obtain⟨h0,Rr,h1,h2,h3,h4,h5,h6,h7,h8,h9⟩:=h.lp _ _ _ cG
   rw[cG] at hon
   exact⟨h0,Rr,h1,h2,h3,h4,h5,h6,h7,(mb C _ _ hon).1 h8,fun D hD=>⟨(exists_congr fun z=>C.aC z D).2 (h9 D hD).1,(h9 D hD).2⟩⟩
  rw[AO] at hl
  obtain⟨cur,T,lo,hi,h1,h2,h3,h4⟩:=h.aQ hl
  refine⟨cur,T,lo,hi,h1,h2,by rw[e1,e2];exact h3,fun i ys hy=> ?_⟩
  rw[AN,Option.map_eq_some_iff] at hy
  obtain⟨LG,ur,rfl⟩:=hy
  obtain⟨cs,h5,h6,h7⟩:=h4 i LG ur
  exact⟨cs,by rw[e1];exact h5,(mb C _ _ (AP hon ur)).1 h6,by rw[e1];exact h7⟩
 ·intro h
  refine⟨fun hl=> ?_,fun i tR st e=> ?_⟩
  rotate_left
  ·subst e
   obtain⟨h0,Rr,h1,h2,h3,h4,h5,h6,h7,h8,h9⟩:=h.lp _ _ _ rfl
   exact⟨h0,Rr,h1,h2,h3,h4,h5,h6,h7,(mb C _ _ hon).2 h8,fun D hD=>⟨(exists_congr fun z=>C.aC z D).1 (h9 D hD).1,(h9 D hD).2⟩⟩
  obtain⟨cur,T,lo,hi,h1,h2,h3,h4⟩:=h.aQ (by rw[AO];exact hl)
  refine⟨cur,T,lo,hi,h1,h2,by rw[e1,e2] at h3;exact h3,fun i ys hy=> ?_⟩
  obtain⟨cs,h5,h6,h7⟩:=h4 i (cm R ys) (by rw[AN,hy];rfl)
  exact⟨cs,by rw[e1] at h5;exact h5,(mb C _ _ (AP hon hy)).2 h6,by rw[e1] at h7;exact h7⟩
def dt(e0 e:J):Prop:=e0.ver=e.ver∧(e.bd.live=true→e0.bd.live=true)∧(e0.bd.count=0→e.bd.count=0)∧(e.bd.live=true→∀(E:Env)(w:World)(b:Nat),fm E w b e0.bd→fm E w b e.bd)∧∀ls,e.bd= .az ls→e0.bd= .az ls
theorem dt.refl(e:J):dt e e:=⟨rfl,id,id,fun _ _ _ _ h=>h,fun _ h=>h⟩
theorem dt.aQ{E:Env}{r b:Nat}{e0 e:J}(h:dt e0 e)(hb:aB E r e b):aB E r e0 b:=by
 rcases hb with⟨h1,h2⟩ | ⟨h1,h2⟩
 ·exact .inl ⟨⟨h.2.1 h1.1,h1.2⟩,h2⟩
 ·obtain⟨ls,he⟩:=DU h1
  have:=h.2.2.2.2 ls (by rw[he])
  exact .inr ⟨by rw[this];rfl,h2⟩
theorem dt.take(v:Nat)(l:List UInt8)(k:Nat):dt ⟨v,.bytes l⟩ ⟨v,.bytes (l.take k)⟩:=by
 refine⟨rfl,fun _=>rfl,fun h=> ?_,fun _ E w b h=>⟨fun _=> ?_,fun _ _ _ q=>by cases q⟩,fun _ q=>by cases q⟩
 ·simp only[Bd.count] at h⊢
  rw[List.length_take];omega
 ·obtain⟨cur,T,lo,hi,h1,h2,h3,h4⟩:=h.aQ rfl
  refine⟨cur,T,lo,hi,h1,h2,?_,fun i ys hy=> ?_⟩
  ·simp only[Bd.count,Bd.sz,Nat.mul_one] at h3⊢
   rw[List.length_take];omega
  ·refine h4 i ys ?_
   simp only[Bd.at,List.getElem?_take] at hy⊢
   split at hy
   ·exact hy
   ·cases hy
theorem dt.row(v sz:Nat){α β:Type}{f:α→List AV}{d:α}{l:List α}{f':β→List AV}{d':β}{l':List β}(h:l.map f=l'.map f'):dt ⟨v,.row sz f d l⟩ ⟨v,.row sz f' d' l'⟩:=by
 have hl:l.length=l'.length:=by have:=congrArg List.length h;simpa using this
 refine⟨rfl,fun _=>rfl,fun q=> ?_,fun _ E w b h0=>⟨fun _=> ?_,fun _ _ _ q=>by cases q⟩,fun _ q=>by cases q⟩
 ·simp only[Bd.count] at q⊢;omega
 ·obtain⟨cur,T,lo,hi,h1,h2,h3,h4⟩:=h0.aQ rfl
  refine⟨cur,T,lo,hi,h1,h2,?_,fun i ys hy=> ?_⟩
  ·simp only[Bd.count,Bd.sz] at h3⊢;rwa [←hl]
  ·refine h4 i ys ?_
   simp only[Bd.at] at hy⊢
   rw[←List.getElem?_map,←h] at hy
   rw[←List.getElem?_map];exact hy
def c9(H:List J)(r:Nat):J:=match bb H r with
 | some e=>e
 | none=>⟨0,.dead⟩
def eu(R:Ren)(H:List J):List Nat→List (Nat×J)
 | []=>[]
 | r::rs=>(R.σ r,⟨(c9 H r).ver+R.δ r,bU R (c9 H r).bd⟩)::eu R H rs
theorem Fb {R : Ren} {H1 : List J} : ∀ {rs : List Nat} {H : List J}, rs.Nodup → (∀ a b, a ∈ rs → b ∈ rs → R.σ a = R.σ b → a = b) → (∀ a, a ∈ rs → R.σ a < H.length) →
    (aM H (eu R H1 rs)).length=H.length∧(∀r,r∈rs→(aM H (eu R H1 rs))[R.σ r]? =some ⟨(c9 H1 r).ver+R.δ r,bU R (c9 H1 r).bd⟩)∧∀q,(∀a,a∈rs→R.σ a≠q)→(aM H (eu R H1 rs))[q]? =H[q]?
 | [],H,_,_,_=>⟨rfl,by simp,fun q _=>rfl⟩
 | r::rs,H,dK,ky,ah=>by
  obtain⟨hr,LH⟩:=List.nodup_cons.1 dK
  simp only[eu,aM,bK]
  obtain⟨h1,h2,h3⟩:=Fb (R:=R) (H1:=H1) (rs:=rs) (H:=H.set (R.σ r) ⟨(c9 H1 r).ver+R.δ r,bU R (c9 H1 r).bd⟩) LH (fun a b ha hb=>ky a b (by simp[ha]) (by simp[hb])) (fun a ha=>by rw[List.length_set];exact ah a (by simp[ha]))
  refine⟨by rw[h1,List.length_set],fun k hk=> ?_,fun q hq=> ?_⟩
  ·rcases List.mem_cons.1 hk with rfl | hk
   ·rw[h3 _ (fun a ha he=>hr (by rw[←ky a k (by simp[ha]) (by simp) he];exact ha))]
    exact List.getElem?_set_self (ah k (by simp))
   ·exact h2 k hk
  ·rw[h3 q (fun a ha=>hq a (by simp[ha]))]
   exact List.getElem?_set_ne (hq r (by simp))
theorem nV{H:List J}{r:Nat}(h:r<H.length):H[r]? =some (c9 H r):=by
 unfold c9
 rw[cj,List.getElem?_eq_getElem h]
theorem Fc {P : Program} {f : FuncId} {dh : List AV} {H0 : List J} {post : AV → List J → Prop} (S : Spec P f dh H0 post) (fG : ∀ (as : Array Value) (w : World), (callFunc f as).run P w = .ok (.enter f as) w)
    (R:Ren) (rs:List Nat) (dK:rs.Nodup) (hp:∀r,r<H0.length→r∈rs∧R.δ r=0) (ky:∀a b,a∈rs→b∈rs→R.σ a=R.σ b→a=b) {args:List AV} {hg:Nat→Option J}
    (cg:args=cm R dh) (hon:cR (· <H0.length) dh) (hrows:∀r e,H0[r]? =some e→dr (· <H0.length) e.bd∧∃e',hg (R.σ r)=some e'∧dt e' ⟨e.ver,bU R e.bd⟩)
    (had:∀r,r∈rs→H0.length≤r→∃e,hg (R.σ r)=some e∧e.ver<R.δ r)
    (jY:∀x H1,post x H1→cQ (· ∈rs) x∧∀r,r∈rs→r<H1.length∧dr (· ∈rs) (c9 H1 r).bd):
    Az P f args hg fun x us=>∃x0 H1,post x0 H1∧x=bJ R x0∧us=eu R H1 rs:=by
 intro E H w cargs hr hh uu
 refine .inl ⟨fG _ _,?_⟩
 -- the rows as the function sees them
 obtain⟨E0,il⟩:∃E0:Env,E0={ρ:=fun r=>E.ρ (R.σ r),ver:=fun r=>if r<H0.length then E.ver (R.σ r) else 0,aC:=E.aC,abs:=fun r=>if r<H0.length then E.abs (R.σ r) else False,pl:=fun r=>E.pl (R.σ r)}:=⟨_,rfl⟩
 have C0:qm (· <H0.length) R E0 E:=by
  subst il
  exact⟨fun r h=>by simp[h,(hp r h).2],fun r h=>rfl,fun r h=>by simp[h],fun z b=>Iff.rfl,fun r h=>rfl⟩
 have ah:∀r,r∈rs→R.σ r<H.length:=by
  intro r bf
  by_cases h:r<H0.length
  ·obtain⟨_,e',kM,_⟩:=hrows r _ (nV h)
   exact(List.getElem?_eq_some_iff.1 (hh _ _ kM)).1
  ·obtain⟨e,he,_⟩:=had r bf (by omega)
   exact(List.getElem?_eq_some_iff.1 (hh _ _ he)).1
 have uv:∀(r:Nat)(e:J),H0[r]? =some e→∃e',H[R.σ r]? =some e'∧dt e' ⟨e.ver,bU R e.bd⟩:=fun r e he=>by
  obtain⟨_,e',h1,h2⟩:=hrows r e he
  exact⟨e',hh _ _ h1,h2⟩
 have lB:∀(r:Nat)(e:J),H0[r]? =some e→r<H0.length:=fun r e he=>(List.getElem?_eq_some_iff.1 he).1
 have LI:∀(r:Nat)(e:J),H0[r]? =some e→bN E0 r e→∃e',H[R.σ r]? =some e'∧dt e' ⟨e.ver,bU R e.bd⟩∧bN E (R.σ r) e':=by
  intro r e he hl
  obtain⟨e',h1,h2⟩:=uv r e he
  refine⟨e',h1,h2,h2.2.1 ?_,fun q=>hl.2 ((C0.abs r (lB r e he)).1 q)⟩
  rw[(j5 (R:=R) (b:=e.bd)).2.2];exact hl.1
 have qn:∀(r:Nat)(e:J)(b:Nat),H0[r]? =some e→aB E0 r e b→∃e',H[R.σ r]? =some e'∧aB E (R.σ r) e' b:=by
  intro r e b he hl
  obtain⟨e',h1,h2⟩:=uv r e he
  exact⟨e',h1,h2.aQ ((C0.aQ (lB r e he) e e.ver b).1 hl)⟩
 have j6:HR E0 w H0:=by
  refine⟨fun r e he=> ?_,fun r e he hl=> ?_,fun r e he ha=> ?_,fun r r' e e' b he kM hl bA=> ?_,?_,fun r e b he hl z hz=> ?_,fun r gh=> ?_,by subst il;exact hr.gl,fun r v ls he=> ?_⟩
  ·have:=C0.ver r (lB r e he)
   rw[(hp r (lB r e he)).2] at this
   obtain⟨e',h1,h2⟩:=uv r e he
   have h3:=hr.ver _ _ h1
   have h4:=h2.1
   simp only at h4;omega
  ·obtain⟨e',h1,h2,h3⟩:=LI r e he hl
   have:=hr.bS _ _ h1 h3
   rw[C0.dM r (lB r e he)] at this
   refine(fm.E8 C0 (hrows r e he).1).2 (h2.2.2.2.1 ?_ _ _ _ this)
   show(bU R e.bd).live=true
   rw[(j5 (R:=R) (b:=e.bd)).2.2];exact hl.1
  ·obtain⟨e',h1,h2⟩:=uv r e he
   have:=h2.2.2.1 (hr.abs _ _ h1 ((C0.abs r (lB r e he)).2 ha))
   rwa [(j5 (R:=R) (b:=e.bd)).2.1] at this
  ·obtain⟨e1,h1,h3⟩:=qn r e b he hl
   obtain⟨e2,g1,g3⟩:=qn r' e' b kM bA
   exact ky r r' (hp r (lB r e he)).1 (hp r' (lB r' e' kM)).1 (hr.inj _ _ _ _ b h1 g1 h3 g3)
  ·subst il;exact hr.cX
  ·obtain⟨e1,h1,h3⟩:=qn r e b he hl
   exact hr.dC _ _ b h1 h3 z ((C0.aC z _).2 hz)
  ·subst il
   have:¬r<H0.length:=by omega
   simp[this]
  ·obtain⟨e',h1,h2⟩:=uv r _ he
   have h3:=h2.2.2.2.2 ls rfl
   rw[←C0.pl r (lB r _ he)]
   exact hr.az _ e'.ver ls (by rw[h1,←h3])
 have LJ:aq E0 w dh cargs:=(mb C0 dh cargs hon).2 (cg▸uu)
 refine Calls.mono (S w E0 cargs j6 LJ) fun e w'⟨v,x0,H1,E1,he,lC,hv,cd,X1,mc,sd,me,cM⟩=> ?_
 obtain⟨LL,nW⟩:=jY x0 H1 lC
 obtain⟨xr,LM,LN⟩:=Fb (R:=R) (H1:=H1) (H:=H) dK ky ah
 -- the caller's addresses behind the call
 obtain⟨inv,hinv⟩:∃inv:Nat→Option Nat,∀q,(∀r,inv q=some r→r∈rs∧R.σ r=q)∧(inv q=none→∀r,r∈rs→R.σ r≠q):=by
  refine⟨fun q=>rs.find? (fun r=>R.σ r==q),fun q=>⟨fun r h=> ?_,fun h r bf he=> ?_⟩⟩
  ·exact⟨List.mem_of_find?_eq_some h,by simpa using List.find?_some h⟩
  ·have:=List.find?_eq_none.1 h r bf
   simp[he] at this
 have xt:∀r,r∈rs→inv (R.σ r)=some r:=by
  intro r bf
  cases hq:inv (R.σ r) with
  | none=>exact absurd rfl ((hinv _).2 hq r bf)
  | some r'=>
   obtain⟨h1,h2⟩:=(hinv _).1 r' hq
   rw[ky r' r h1 bf h2]
 obtain⟨E',aN⟩:∃E':Env,E'={ρ:=fun q=>match inv q with | some r=>E1.ρ r | none=>E.ρ q,ver:=fun q=>match inv q with | some r=>E1.ver r+R.δ r | none=>E.ver q,aC:=E1.aC,abs:=fun q=>match inv q with | some r=>E1.abs r | none=>E.abs q,pl:=fun q=>match inv q with | some r=>E1.pl r | none=>E.pl q}:=⟨_,rfl⟩
 have C1:qm (· ∈rs) R E1 E':=by
  subst aN
  exact⟨fun r h=>by simp[xt r h],fun r h=>by simp[xt r h],fun r h=>by simp[xt r h],fun z b=>Iff.rfl,fun r h=>by simp[xt r h]⟩
 have kS:∀q,(∀r,r∈rs→R.σ r≠q)→E'.ρ q=E.ρ q∧E'.ver q=E.ver q∧E'.abs q=E.abs q∧E'.pl q=E.pl q:=by
  intro q hq
  subst aN
  have:inv q=none:=by
   cases h:inv q with
   | none=>rfl
   | some r=>exact absurd ((hinv q).1 r h).2 (hq r ((hinv q).1 r h).1)
  simp[this]
 have qc:∀q,(∃r,r∈rs∧R.σ r=q)∨(∀r,r∈rs→R.σ r≠q):=by
  intro q
  cases h:inv q with
  | some r=>exact .inl ⟨r,(hinv q).1 r h⟩
  | none=>exact .inr ((hinv q).2 h)
 have xu:∀z b,E0.aC z b↔E.aC z b:=fun z b=>(C0.aC z b).symm
 -- a row of the caller's that was not handed in keeps its block
 have kG:∀k,k<w.heap.size→(∀(r:Nat)(e:J),H0[r]? =some e→¬aB E0 r e k)→w'.heap[k]? =w.heap[k]?:=fun k hk h=>cM.block k hk h
 have xw:∀(q:Nat)(e:J)(b:Nat),H[q]? =some e→aB E q e b→(∀r,r∈rs→R.σ r≠q)→∀(r:Nat)(e0:J),H0[r]? =some e0→¬aB E0 r e0 b:=by
  intro q e b hq hl aG r e0 j7 gJ
  obtain⟨e1,h1,h3⟩:=qn r e0 b j7 gJ
  exact aG r (hp r (lB r e0 j7)).1 (hr.inj _ _ _ _ b h1 hq h3 hl)
 have tO:∀r,r∈rs→H0.length≤r→E.ver (R.σ r)<R.δ r:=by
  intro r bf gh
  obtain⟨e,he,kJ⟩:=had r bf gh
  rw[hr.ver _ _ (hh _ _ he)];exact kJ
 have oW:∀r,r<H0.length→E.ver (R.σ r)=E0.ver r∧E'.ver (R.σ r)=E1.ver r:=by
  intro r h
  have h1:=C0.ver r h
  have h2:=C1.ver r (hp r h).1
  rw[(hp r h).2] at h1 h2
  exact⟨h1,h2⟩
 have X:Ext E E' w w':=by
  refine⟨fun q=> ?_,fun q e=> ?_,fun q e=> ?_,fun z b hz=> ?_,fun z b hz=>X1.cell z b ((xu z b).2 hz),fun k cur T fz hc=>cM.grow _ cur T fz hc,fun q e i b hi=> ?_⟩
  ·rcases qc q with⟨r,bf,rfl⟩ | hq
   ·by_cases h:r<H0.length
    ·rw[(oW r h).1,(oW r h).2];exact X1.ver r
    ·have:=tO r bf (by omega)
     have:=C1.ver r bf
     omega
   ·rw[(kS q hq).2.1];exact Nat.le_refl _
  ·rcases qc q with⟨r,bf,rfl⟩ | hq
   ·by_cases h:r<H0.length
    ·rw[(oW r h).1,(oW r h).2] at e
     rw[C1.dM r bf,C0.dM r h];exact X1.dM r e
    ·have:=tO r bf (by omega)
     have:=C1.ver r bf
     omega
   ·exact(kS q hq).1
  ·rcases qc q with⟨r,bf,rfl⟩ | hq
   ·by_cases h:r<H0.length
    ·rw[(oW r h).1,(oW r h).2] at e
     rw[C1.abs r bf,C0.abs r h];exact X1.abs r e
    ·have:=tO r bf (by omega)
     have:=C1.ver r bf
     omega
   ·rw[(kS q hq).2.2.1]
  ·exact(C1.aC z b).2 (X1.aC z b ((xu z b).2 hz))
  ·rcases qc q with⟨r,bf,rfl⟩ | hq
   ·by_cases h:r<H0.length
    ·rw[(oW r h).1,(oW r h).2] at e
     rw[C1.pl r bf]
     rw[C0.pl r h] at hi
     exact X1.pl r e i b hi
    ·have:=tO r bf (by omega)
     have:=C1.ver r bf
     omega
   ·rw[(kS q hq).2.2.2];exact hi
 have oX:∀(q:Nat)(e:J),(aM H (eu R H1 rs))[q]? =some e→(∃r,r∈rs∧R.σ r=q∧e=⟨(c9 H1 r).ver+R.δ r,bU R (c9 H1 r).bd⟩)∨((∀r,r∈rs→R.σ r≠q)∧H[q]? =some e):=by
  intro q e he
  rcases qc q with⟨r,bf,rfl⟩ | hq
  ·rw[LM r bf] at he
   exact .inl ⟨r,bf,rfl,(Option.some.inj he).symm⟩
  ·rw[LN q hq] at he
   exact .inr ⟨hq,he⟩
 have LO:∀r,r∈rs→(bN E1 r (c9 H1 r)↔bN E' (R.σ r) ⟨(c9 H1 r).ver+R.δ r,bU R (c9 H1 r).bd⟩):=by
  intro r bf
  unfold bN
  rw[(j5 (R:=R) (b:=(c9 H1 r).bd)).2.2,C1.abs r bf]
 have Fe:∀(q:Nat)(e:J),(∀r,r∈rs→R.σ r≠q)→(bN E' q e↔bN E q e):=by
  intro q e hq
  unfold bN
  rw[(kS q hq).2.2.1]
 have se:∀(q:Nat)(e:J)(b:Nat),(∀r,r∈rs→R.σ r≠q)→(aB E' q e b↔aB E q e b):=by
  intro q e b hq
  unfold aB
  rw[Fe q e hq,(kS q hq).1,(kS q hq).2.2.2]
 have Ff:∀r b,r∈rs→aB E1 r (c9 H1 r) b→w.heap.size≤b∨∃(r0:Nat)(e0:J),H0[r0]? =some e0∧aB E0 r0 e0 b:=fun r b bf hl=>me r _ b (nV (nW r bf).1) hl
 have uw:HR E' w' (aM H (eu R H1 rs)):=by
  refine⟨fun q e he=> ?_,fun q e he hl=> ?_,fun q e he ha=> ?_,fun q q' e e' b he kM hl bA=> ?_,fun z b hz=>cd.cX z b ((C1.aC z b).1 hz),fun q e b he hl z hz=> ?_,fun q gh=> ?_,hr.gl.ext X,fun q v ls he=> ?_⟩
  ·rcases oX q e he with⟨r,bf,rfl,rfl⟩ | ⟨hq,he⟩
   ·rw[C1.ver r bf,cd.ver r _ (nV (nW r bf).1)]
   ·rw[(kS q hq).2.1];exact hr.ver q e he
  ·rcases oX q e he with⟨r,bf,rfl,rfl⟩ | ⟨hq,he⟩
   ·rw[C1.dM r bf]
    exact(fm.E8 C1 (nW r bf).2).1 (cd.bS r _ (nV (nW r bf).1) ((LO r bf).2 hl))
   ·rw[(kS q hq).1]
    have hl:=(Fe q e hq).1 hl
    exact(hr.bS q e he hl).ext X (kG _ (hr.lt he hl) (xw q e _ he (aB.of hl) hq))
  ·rcases oX q e he with⟨r,bf,rfl,rfl⟩ | ⟨hq,he⟩
   ·rw[(j5 (R:=R)).2.1]
    exact cd.abs r _ (nV (nW r bf).1) ((C1.abs r bf).1 ha)
   ·rw[(kS q hq).2.2.1] at ha;exact hr.abs q e he ha
  ·have mixed:∀(r q:Nat)(e:J),r∈rs→aB E1 r (c9 H1 r) b→(∀r,r∈rs→R.σ r≠q)→H[q]? =some e→¬aB E q e b:=by
     intro r q e bf hl hq he jx
     rcases Ff r b bf hl with h | ⟨r0,e0,h2,h3⟩
     ·have:=hr.blt he jx;omega
     ·exact xw q e b he jx hq r0 e0 h2 h3
   rcases oX q e he with⟨r,bf,rfl,rfl⟩ | ⟨hq,he⟩<;>rcases oX q' e' kM with⟨r2,hr2,rfl,rfl⟩ | ⟨sf,xx⟩
   ·rw[cd.inj r r2 _ _ b (nV (nW r bf).1) (nV (nW r2 hr2).1) ((C1.aQ bf _ _ b).2 hl) ((C1.aQ hr2 _ _ b).2 bA)]
   ·exact absurd ((se q' e' b sf).1 bA) (mixed r q' e' bf ((C1.aQ bf _ _ b).2 hl) sf xx)
   ·exact absurd ((se q e b hq).1 hl) (mixed r2 q e hr2 ((C1.aQ hr2 _ _ b).2 bA) hq he)
   ·exact hr.inj q q' e e' b he xx ((se q e b hq).1 hl) ((se q' e' b sf).1 bA)
  ·have hz:=(C1.aC z _).1 hz
   rcases oX q e he with⟨r,bf,rfl,rfl⟩ | ⟨hq,he⟩
   ·exact cd.dC r _ b (nV (nW r bf).1) ((C1.aQ bf _ _ b).2 hl) z hz
   ·have hl:=(se q e b hq).1 hl
    rcases mc z _ hz with h | h | ⟨r0,e0,h2,h3⟩
    ·exact hr.dC q e b he hl z ((xu z _).1 h)
    ·have:=hr.blt he hl;omega
    ·exact xw q e b he hl hq r0 e0 h2 h3
  ·rw[xr] at gh
   have hq:∀r,r∈rs→R.σ r≠q:=fun r bf h=>by have:=ah r bf;omega
   rw[(kS q hq).2.1,(kS q hq).2.2.1]
   exact hr.top q gh
  ·rcases oX q _ he with⟨r,bf,rfl,h1⟩ | ⟨hq,he⟩
   ·have h2:=xq (J.mk.inj h1).2.symm
    rw[C1.pl r bf]
    exact cd.az r (c9 H1 r).ver ls (by rw[nV (nW r bf).1,←h2])
   ·rw[(kS q hq).2.2.2]
    exact(hr.az q v ls he).mL fun i b hb=>kG b ((hr.az q v ls he).lt hb) (xw q _ b he (.inr ⟨rfl,i,hb⟩) hq)
 have c7:∀r,r∈rs→R.σ r∈(eu R H1 rs).map (·.1):=by
  intro r
  have:∀(l:List Nat),r∈l→R.σ r∈(eu R H1 l).map (·.1):=by
   intro l
   induction l with
   | nil=>intro h;simp at h
   | cons a l ih=>
    intro h
    simp only[eu,List.map_cons,List.mem_cons]
    rcases List.mem_cons.1 h with rfl | h
    ·exact .inl rfl
    ·exact .inr (ih h)
  exact this rs
 refine⟨v,he,bJ R x0,eu R H1 rs,E',⟨x0,H1,lC,rfl,rfl⟩,(AM C1 x0 v LL).1 hv,⟨X,uw,cM.os,cM.tape,cM.output,cM.size,fun z b hz=> ?_,cM.grow,fun k hk hb=> ?_,fun q e b he hl=> ?_⟩⟩
 ·exact(mc z b ((C1.aC z b).1 hz)).imp (xu z b).1 (Or.imp id fun⟨r0,e0,h2,h3⟩=>let⟨e',g1,g2⟩:=qn r0 e0 b h2 h3;⟨_,e',g1,g2⟩)
 ·refine kG k hk fun r e0 j7 gJ=> ?_
  obtain⟨e1,g1,g3⟩:=qn r e0 k j7 gJ
  exact hb (R.σ r) _ g1 g3 (c7 r (hp r (lB r e0 j7)).1)
 ·rcases oX q e he with⟨r,bf,rfl,rfl⟩ | ⟨hq,he⟩
  ·rcases Ff r b bf ((C1.aQ bf _ _ b).2 hl) with h | ⟨r0,e0,h2,h3⟩
   ·exact .inl h
   ·obtain⟨e1,g1,g3⟩:=qn r0 e0 b h2 h3
    exact .inr ⟨R.σ r0,_,g1,g3,.inr (c7 r0 (hp r0 (lB r0 e0 h2)).1)⟩
  ·exact .inr ⟨q,e,he,(se q e b hq).1 hl,.inl rfl⟩
theorem AQ{P:Program}{f:FuncId}{caps args:List AV}{hg:Nat→Option J}{K:AV→List (Nat×J)→Prop}{post:AV→List (Nat×J)→Prop}(h:Az P f (args++caps) hg post)(hK:∀v us,post v us→K v us):eZ P (.clo f caps) args hg K:=by
 unfold eZ
 exact⟨f,caps,rfl,post,h,hK⟩

set_option linter.unusedVariables false
set_option linter.unusedSimpArgs false
open Go.RowKit
abbrev Us:=List (Nat×J)
def fb:Us→Nat→Option J
 | [],_=>none
 | (q,e)::us,r=>match fb us r with
  | some e'=>some e'
  | none=>if q=r then some e else none
theorem xy:∀(us:Us)(H:List J)(r:Nat),(aM H us)[r]? =(H[r]?).map fun e0=>(fb us r).getD e0
 | [],H,r=>by simp[aM,fb]
 | (q,e)::us,H,r=>by
  simp only[aM,bK,fb]
  rw[xy us]
  by_cases hq:q=r
  ·subst hq
   by_cases ah:q<H.length
   ·rw[List.getElem?_set_self ah,List.getElem?_eq_getElem ah]
    cases fb us q<;>simp
   ·rw[List.getElem?_eq_none (by simpa using ah),List.getElem?_eq_none (by simpa using ah)];rfl
  ·rw[List.getElem?_set_ne hq]
   cases fb us r<;>simp[hq]
theorem Fg:∀(us:Us)(H:List J),(aM H us).length=H.length
 | [],_=>rfl
 | (q,e)::us,H=>by simp only[aM,bK];rw[Fg us];simp
abbrev Tr:=List (Nat×AV×Us)
section
variable (dst:Nat→Option Tmp)
def nX(i:Nat)(v:AV)(us:Us)(s:St):St:=⟨bc s.t (dst i) v,aM s.H us⟩
def bW(L:Nat→Bool):Tr→St→St
 | [],s=>s
 | (i,v,us)::tr,s=>bW L tr (if L i then nX dst i v us s else s)
def gK(L:Nat→Bool):Tr→Nat→Option J
 | [],_=>none
 | (i,_,us)::tr,r=>match gK L tr r with
  | some e=>some e
  | none=>if L i then fb us r else none
def gL(L:Nat→Bool):Tr→Nat→Option AV
 | [],_=>none
 | (i,v,_)::tr,k=>match gL L tr k with
  | some e=>some e
  | none=>if L i&&dst i==some k then some v else none
theorem Fh(t:List AV)(d:Option Tmp)(v:AV)(k:Nat):(bc t d v)[k]? =(t[k]?).map fun x0=>if d=some k then v else x0:=by
 cases d with
 | none=>simp[bc]
 | some d=>
  simp only[bc,bK,Option.some.injEq]
  by_cases hd:d=k
  ·subst hd
   by_cases ah:d<t.length
   ·rw[List.getElem?_set_self ah,List.getElem?_eq_getElem ah];simp
   ·rw[List.getElem?_eq_none (by simpa using ah),List.getElem?_eq_none (by simpa using ah)];rfl
  ·rw[List.getElem?_set_ne hd];simp[hd]
theorem ux(L:Nat→Bool):∀(tr:Tr)(s:St)(r:Nat),(bW dst L tr s).H[r]? =(s.H[r]?).map fun e0=>(gK L tr r).getD e0
 | [],s,r=>by simp[bW,gK]
 | (i,v,us)::tr,s,r=>by
  simp only[bW,gK]
  rw[ux L tr]
  cases hL:L i
  ·simp only[Bool.false_eq_true,if_false]
   cases gK L tr r<;>simp
  ·simp only[if_true,nX,xy,Option.map_map]
   cases gK L tr r<;>simp[Function.comp_def]
theorem uz(L:Nat→Bool):∀(tr:Tr)(s:St)(k:Nat),(bW dst L tr s).t[k]? =(s.t[k]?).map fun e0=>(gL dst L tr k).getD e0
 | [],s,r=>by simp[bW,gL]
 | (i,v,us)::tr,s,k=>by
  simp only[bW,gL]
  rw[uz L tr]
  cases hL:L i
  ·simp only[Bool.false_eq_true,if_false,Bool.false_and]
   cases gL dst L tr k<;>simp
  ·simp only[if_true,nX,Fh,Option.map_map,Bool.true_and]
   cases gL dst L tr k with
   | some e=>simp[Function.comp_def]
   | none=>
    simp only[Option.getD_none,Function.comp_def]
    by_cases hd:dst i=some k
    ·simp[hd]
    ·simp[hd]
theorem St.ext'{s s':St}(h1:∀k:Nat,s.t[k]? =s'.t[k]?)(h2:∀r:Nat,s.H[r]? =s'.H[r]?):s=s':=by
 cases s;cases s'
 simp only[St.mk.injEq]
 exact⟨List.ext_getElem? h1,List.ext_getElem? h2⟩
theorem xA(L:Nat→Bool):∀(a b:Tr)(r:Nat),gK L (a++b) r=(gK L b r).or (gK L a r)
 | [],b,r=>by simp[gK]
 | (i,v,us)::a,b,r=>by
  simp only[List.cons_append,gK]
  rw[xA L a b]
  cases gK L b r<;>simp
theorem xB(L:Nat→Bool):∀(a b:Tr)(r:Nat),gL dst L (a++b) r=(gL dst L b r).or (gL dst L a r)
 | [],b,r=>by simp[gL]
 | (i,v,us)::a,b,r=>by
  simp only[List.cons_append,gL]
  rw[xB L a b]
  cases gL dst L b r<;>simp
theorem AR{L L':Nat→Bool}{r:Nat}:∀{tr:Tr},(∀y∈tr,fb y.2.2 r≠none→L y.1=L' y.1)→gK L tr r=gK L' tr r
 | [],_=>rfl
 | (i,v,us)::tr,h=>by
  simp only[gK]
  rw[AR (tr:=tr) (fun y hy=>h y (by simp[hy]))]
  by_cases hu:fb us r=none
  ·simp[hu]
  ·rw[h (i,v,us) (by simp) hu]
theorem AS{L:Nat→Bool}{r:Nat}:∀{tr:Tr},(∀y∈tr,fb y.2.2 r≠none→L y.1=false)→gK L tr r=none
 | [],_=>rfl
 | (i,v,us)::tr,h=>by
  simp only[gK]
  rw[AS (tr:=tr) (fun y hy=>h y (by simp[hy]))]
  by_cases hu:fb us r=none
  ·simp[hu]
  ·simp[h (i,v,us) (by simp) hu]
theorem AT{L L':Nat→Bool}{k:Nat}:∀{tr:Tr},(∀y∈tr,dst y.1=some k→L y.1=L' y.1)→gL dst L tr k=gL dst L' tr k
 | [],_=>rfl
 | (i,v,us)::tr,h=>by
  simp only[gL]
  rw[AT (tr:=tr) (fun y hy=>h y (by simp[hy]))]
  by_cases hu:dst i=some k
  ·rw[h (i,v,us) (by simp) hu]
  ·simp[hu]
theorem AU{L:Nat→Bool}{k:Nat}:∀{tr:Tr},(∀y∈tr,dst y.1=some k→L y.1=false)→gL dst L tr k=none
 | [],_=>rfl
 | (i,v,us)::tr,h=>by
  simp only[gL]
  rw[AU (tr:=tr) (fun y hy=>h y (by simp[hy]))]
  by_cases hu:dst i=some k
  ·simp[h (i,v,us) (by simp) hu]
  ·simp[hu]
theorem LP {L : Nat → Bool} {t1 t2 : Tr} {i : Nat} {v : AV} {us : Us} {s : St} (hi : L i = false) (h1 : ∀ y ∈ t1, y.1 ≠ i) (h2 : ∀ y ∈ t2, y.1 ≠ i)
    (hS:∀y∈t2,∀k,dst i=some k→dst y.1=some k→L y.1=false) (hH:∀y∈t2,∀r,fb us r≠none→fb y.2.2 r≠none→L y.1=false):
    bW dst (fun j=>L j||j==i) (t1++(i,v,us)::t2) s=nX dst i v us (bW dst L (t1++(i,v,us)::t2) s):=by
 have e1:∀{tr:Tr},(∀y∈tr,y.1≠i)→∀r,gK (fun j=>L j||j==i) tr r=gK L tr r:=fun h r=>AR fun y hy _=>by simp[h y hy]
 have e2:∀{tr:Tr},(∀y∈tr,y.1≠i)→∀k,gL dst (fun j=>L j||j==i) tr k=gL dst L tr k:=fun h k=>AT dst fun y hy _=>by simp[h y hy]
 refine St.ext' (fun k=> ?_) (fun r=> ?_)
 ·rw[uz]
  simp only[nX,Fh,uz,Option.map_map]
  congr 1
  funext x0
  simp only[Function.comp_def]
  rw[xB,xB]
  simp only[gL,e2 h1,e2 h2,hi,Bool.false_or,beq_self_eq_true,Bool.true_and,Bool.false_and,Bool.false_eq_true,if_false]
  by_cases hd:dst i=some k
  ·have:=AU dst (L:=L) (k:=k) (tr:=t2) (fun y hy h=>hS y hy k hd h)
   simp[this,hd]
  ·simp only[hd,beq_iff_eq,if_false]
 ·rw[ux]
  simp only[nX,xy,ux,Option.map_map]
  congr 1
  funext e0
  simp only[Function.comp_def]
  rw[xA,xA]
  simp only[gK,e1 h1,e1 h2,hi,Bool.false_or,beq_self_eq_true,if_true,Bool.false_eq_true,if_false]
  by_cases hu:fb us r=none
  ·simp[hu]
  ·have:=AS (L:=L) (r:=r) (tr:=t2) (fun y hy h=>hH y hy r hu h)
   obtain⟨e,he⟩:=Option.ne_none_iff_exists'.1 hu
   simp[this,he]
theorem Fi {L : Nat → Bool} {t1 t2 : Tr} {s : St} {r : Nat} (h1 : ∀ y ∈ t1, fb y.2.2 r ≠ none → L y.1 = true) (h2 : ∀ y ∈ t2, fb y.2.2 r ≠ none → L y.1 = false) :
    (bW dst L (t1++t2) s).H[r]? =(bW dst (fun _=>true) t1 s).H[r]?:=by
 rw[ux,ux,xA,AS h2,AR (L':=fun _=>true) (fun y hy h=>h1 y hy h)]
 simp
theorem LQ {L : Nat → Bool} {t1 t2 : Tr} {s : St} {k : Nat} (h1 : ∀ y ∈ t1, dst y.1 = some k → L y.1 = true) (h2 : ∀ y ∈ t2, dst y.1 = some k → L y.1 = false) :
    bF (bW dst L (t1++t2) s).t k=bF (bW dst (fun _=>true) t1 s).t k:=by
 unfold bF
 rw[cj,cj,uz,uz,xB,AU dst h2,AT dst (L':=fun _=>true) (fun y hy h=>h1 y hy h)]
 simp
end

set_option linter.unusedVariables false
set_option linter.unusedSimpArgs false
open Go.RowKit
def tmpsOf:List Operand→List Tmp
 | []=>[]
 | .tmp i::xs=>i::tmpsOf xs
 | _::xs=>tmpsOf xs
theorem Fj:∀{xs:List Operand}{i:Tmp},Operand.tmp i∈xs→i∈tmpsOf xs
 | x::xs,i,h=>by
  rcases List.mem_cons.1 h with h | h
  ·subst h;simp[tmpsOf]
  ·have:=Fj h
   cases x<;>simp[tmpsOf,this]
def kz(ops:Array Oper)(o:Oper):List Tmp:=tmpsOf (aR o.op)++(match o.guard with
 | none=>[]
 | some (j,_)=>((ops[j]?).bind (·.dst)).toList)
def mY(o:Oper):Bool:=match o.op with
 | .call c=>match c.callee with
  | .value _=>true
  | _=>false
 | _=>false
def fN(p:Nat):Option Tmp→Option Nat
 | some d=>some (p+d)
 | none=>none
def lD(V:Nat→Option J)(bE:Bool)(own:Option Nat):Us→Prop
 | []=>True
 | (r,e)::us=>(match bE with
  | true=>own=some r∨V r≠none
  | false=>own=some r∨V r=some e)∧lD V bE own us
def Fk(V:Nat→Option J)(bE:Bool)(own:Option Nat)(s:St)(dst:Option Tmp)(K:St→Prop)(v:AV)(us:Us):Prop:=lD V bE own us∧K ⟨bc s.t dst v,aM s.H us⟩
def AW(tb:TypeId→Option TI)(p:Nat)(V:Nat→Option J)(bE:Bool)(o:Oper)(s:St)(K:St→Prop):Prop:=
 dV s.t (aR o.op)∧nS tb p o (bu s.t) V fun Φ v us=>Φ∧lD V bE (fN p o.dst) us∧K ⟨bc s.t o.dst v,aM s.H us⟩
def Fl(tb:TypeId→Option TI)(P:Program)(p:Nat)(V:Nat→Option J)(bE:Bool)(o:Oper)(s:St)(K:St→Prop):Prop:=match o.op with
 | .call c=>match c.callee with
  | .value f=>dV s.t (aR o.op)∧eZ P (bu s.t f) (c.args.toList.map (bu s.t)) V (Fk V bE (fN p o.dst) s o.dst K)
  | _=>AW tb p V bE o s K
 | .pick c a b=>oR s.t c a b fun Φ v=>Φ∧K ⟨bc s.t o.dst v,s.H⟩
 | _=>AW tb p V bE o s K
def LR(V:Nat→Option J)(bE:Bool)(G A:Prop)(own:Option Nat)(s:St)(dst:Option Tmp)(K:St→Prop)(Φ:Prop)(v:AV)(us:Us):Prop:=match us with
 | []=>(G→A∧Φ)∧us=[]∧K ⟨bc s.t dst (.gd G v),s.H⟩
 | _::_=>(G→(A∧Φ∧lD V bE own us)∧K ⟨bc s.t dst v,aM s.H us⟩)∧(¬G→K ⟨bc s.t dst (.gd False .any),s.H⟩)
def xC(tb:TypeId→Option TI)(p:Nat)(V:Nat→Option J)(bE:Bool)(o:Oper)(s:St)(G:Prop)(K:St→Prop):Prop:=
 l7 s.t (aR o.op) (¬G∧K ⟨bc s.t o.dst (.gd False .any),s.H⟩) (nS tb p o (bu s.t) V (LR V bE G (dV s.t (aR o.op)) (fN p o.dst) s o.dst K))
def Fm(tb:TypeId→Option TI)(P:Program)(p:Nat)(V:Nat→Option J)(bE:Bool)(o:Oper)(s:St)(G:Prop)(K:St→Prop):Prop:=match o.op with
 | .call c=>match c.callee with
  | .value f=>(G→dV s.t (aR o.op)∧eZ P (bu s.t f) (c.args.toList.map (bu s.t)) V (Fk V bE (fN p o.dst) s o.dst K))∧(¬G→K ⟨bc s.t o.dst (.gd False .any),s.H⟩)
  | _=>xC tb p V bE o s G K
 | .pick c a b=>l7 s.t [c] (¬G∧K ⟨bc s.t o.dst (.gd False .any),s.H⟩) (oR s.t c a b fun Φ v=>(G→Φ)∧K ⟨bc s.t o.dst (.gd G v),s.H⟩)
 | _=>xC tb p V bE o s G K
def AY(tb:TypeId→Option TI)(P:Program)(p:Nat)(all:List Oper)(V:Nat→Option J)(bE:Bool)(o:Oper)(s:St)(K:St→Prop):Prop:=match o.guard with
 | none=>Fl tb P p V bE o s K
 | some (j,b)=>r7 all s.t j b fun G=>Fm tb P p V bE o s G K
section
variable {P:Program}
def sh(P:Program)(ops:Array Oper)(o:Oper)(t:List AV)(V:Nat→Option J)(post:AV→Us→Prop):Prop:=
 ∀(w0:World)(keep:Bs)(E:Env)(s:St)(a:Act)(w:World)(Q:Exit→Act→World→Prop),Rel w0 keep E s a w→(∀k∈kz ops o,bF s.t k=bF t k)→(∀(r:Nat)(e:J),V r=some e→s.H[r]? =some e)→
  (Region.wanted o (yielded ops a.tmps)=true∧o.wp P a w (fun a' w'=>∃v us E',post v us∧Rel w0 keep E' ⟨bc s.t o.dst v,aM s.H us⟩ a' w') Q)∨
  (Region.wanted o (yielded ops a.tmps)=false∧∃v us,post v us∧Rel w0 keep E ⟨bc s.t o.dst v,aM s.H us⟩ (a.put o.dst undef) w)
theorem Fo{ops:Array Oper}{o:Oper}{s:St}{t:List AV}(h:∀k∈kz ops o,bF s.t k=bF t k){x:Operand}(hx:x∈aR o.op):bu s.t x=bu t x∧(dP s.t x↔dP t x):=by
 cases x with
 | tmp i=>
  have:=h i (List.mem_append_left _ (Fj hx))
  simp only[bu,dP,this,and_self]
 | _=>exact⟨rfl,Iff.rfl⟩
theorem xD {ops : Array Oper} {o : Oper} {s : St} {t : List AV} {w0 : World} {keep : Bs} {E : Env} {a : Act} {w : World} (hR : Rel w0 keep E s a w) (h : ∀ k ∈ kz ops o, bF s.t k = bF t k) (hg : dV t (aR o.op)) :
    ∀x∈aR o.op,ae E w (bu t x) (a.eval x):=by
 intro x hx
 obtain⟨h1,h2⟩:=Fo h hx
 rw[←h1]
 exact hR.ik (h2.2 (l6 hg x hx))
theorem uA {w0 : World} {keep : Bs} {o : Oper} {a : Act} {w w' : World} {cv : Value} {E E' : Env} {s : St} {v : AV} {us : Us} {post : AV → Us → Prop} {Q : Exit → Act → World → Prop} (hR : Rel w0 keep E s a w) (h : zg P o a.eval w cv w') (hv : ae E' w' v cv) (ho : Out E E' w w' s.H us) (hp : post v us) :
    o.wp P a w (fun a' w'=>∃v us E',post v us∧Rel w0 keep E' ⟨bc s.t o.dst v,aM s.H us⟩ a' w') Q:=
 xe h ⟨v,us,E',hp,hR.put ho hv⟩
theorem Fp {ops : Array Oper} {o : Oper} {c : Call} {f : Operand} (ho : o.op = .call c) (hc : c.callee = .value f) {t : List AV} {V : Nat → Option J} {K : AV → Us → Prop} (jX : dV t (aR o.op)) (h : eZ P (bu t f) (c.args.toList.map (bu t)) V K) :
    ∃post:AV→Us→Prop,(∀v us,post v us→K v us)∧∀(w0:World)(keep:Bs)(E:Env)(s:St)(a:Act)(w:World)(Q:Exit→Act→World→Prop),Rel w0 keep E s a w→(∀k∈kz ops o,bF s.t k=bF t k)→(∀(r:Nat)(e:J),V r=some e→s.H[r]? =some e)→
     o.wp P a w (fun a' w'=>∃v us E',post v us∧Rel w0 keep E' ⟨bc s.t o.dst v,aM s.H us⟩ a' w') Q:=by
 unfold eZ at h
 obtain⟨fn,caps,hf,post,AE,jY⟩:=h
 refine⟨post,jY,fun w0 keep E s a w Q hR LU hV=> ?_⟩
 have au:=xD hR LU jX
 rw[ho] at au
 simp only[aR,hc] at au
 have ju:=au f (by simp)
 rw[hf,ae] at ju
 obtain⟨cs,ju,cA⟩:=ju
 have cg:aq E w (c.args.toList.map (bu t)) (c.args.toList.map a.eval):=tE _ (fun x hx=>au x (by simp[hx]))
 exact EJ ho hc ju (AE E s.H w _ hR.hr hV (ia cg cA)) fun v w'⟨x,us,E',hp,hv,nM⟩=>⟨x,us,E',hp,hR.put nM hv⟩
theorem Fq {ops : Array Oper} {o : Oper} {c x y : Operand} (ho : o.op = .pick c x y) {t : List AV} {K : Prop → AV → Prop} (h : oR t c x y K) : ∃ Φ v, K Φ v ∧ (Φ → ∀ {w0 : World} {keep : Bs} {E : Env} {s : St} {act : Act} {w : World}, Rel w0 keep E s act w → (∀ k ∈ kz ops o, bF s.t k = bF t k) →
    ∃q:Bool,act.eval c= .bool q∧ae E w v (if q then act.eval x else act.eval y)):=by
 have hm:∀{s:St},(∀k∈kz ops o,bF s.t k=bF t k)→∀z∈[c,x,y],bu s.t z=bu t z∧(dP s.t z↔dP t z):=fun{s} h z hz=>Fo h (by rw[ho];exact hz)
 unfold oR at h
 split at h
 rotate_left
 ·exact h.elim
 rename_i q hc
 have dE:∀{w0:World}{keep:Bs}{E:Env}{s:St}{act:Act}{w:World},Rel w0 keep E s act w→(∀k∈kz ops o,bF s.t k=bF t k)→dP t c→act.eval c= .bool q:=by
  intro w0 keep E s act w hR hl hg
  obtain⟨h1,h2⟩:=hm hl c (by simp)
  have:=hR.ik (h2.2 hg)
  rw[h1,hc] at this
  exact bq this
 have cU:∀{w0:World}{keep:Bs}{E:Env}{s:St}{act:Act}{w:World},Rel w0 keep E s act w→(∀k∈kz ops o,bF s.t k=bF t k)→∀z∈[c,x,y],dP t z→ae E w (bu t z) (act.eval z):=by
  intro w0 keep E s act w hR hl z hz hg
  obtain⟨h1,h2⟩:=hm hl z hz
  rw[←h1];exact hR.ik (h2.2 hg)
 split at h
 ·refine⟨_,_,h,fun p w0 keep E s act w hR hl=>⟨q,dE hR hl p.1,?_⟩⟩
  rw[p.2.1];exact cU hR hl x (by simp) p.2.2
 ·rename_i vy hb
  split at h
  ·rename_i vx ha
   refine⟨_,_,h,fun p w0 keep E s act w hR hl=>⟨q,dE hR hl p.1,?_⟩⟩
   obtain⟨p1,p2,p3⟩:=p
   have key:(if q then act.eval x else act.eval y)= .bool (if q then vx else vy):=by
    cases q with
    | true=>have:=cU hR hl x (by simp) (p2 rfl);rw[ha] at this;simpa using bq this
    | false=>have:=cU hR hl y (by simp) (p3 rfl);rw[hb] at this;simpa using bq this
   rw[key,ae]
   congr 1
   exact(EO ha hb).symm
  ·refine⟨_,_,h,fun p w0 keep E s act w hR hl=>⟨q,dE hR hl p.1,?_⟩⟩
   rw[p.2.1];exact cU hR hl y (by simp) p.2.2
  ·exact h.elim
 ·exact h.elim
theorem LV {ops : Array Oper} {o : Oper} {t : List AV} {j : Nat} {b : Bool} (ho : o.guard = some (j, b)) {K : Prop → Prop} (h : r7 ops.toList t j b K) : ∃ G, K G ∧ ∀ {w0 : World} {keep : Bs} {E : Env} {s : St} {a : Act} {w : World}, Rel w0 keep E s a w → (∀ k ∈ kz ops o, bF s.t k = bF t k) →
    (G→Region.wanted o (yielded ops a.tmps)=true)∧(¬G→Region.wanted o (yielded ops a.tmps)=false):=by
 unfold r7 at h
 split at h
 ·exact h.elim
 rename_i oj mU
 split at h
 ·exact h.elim
 rename_i d hd
 rw[rR] at mU
 have mV:(ops[j]?).bind (·.dst)=some d:=by
  have:ops[j]? =some oj:=by simpa using mU
  rw[this];exact hd
 have ew:d∈kz ops o:=by
  unfold kz
  rw[ho]
  exact List.mem_append_right _ (by simp[mV])
 split at h
 ·rename_i q hq
  refine⟨_,h,fun{w0 keep E s a w} hR hl=> ?_⟩
  have hv:=hR.get d
  rw[hl d ew,hq] at hv
  have hy:=xf mV (bq hv)
  exact⟨fun hG=>xg ho (by rw[hy,hG]),fun hG=>oS ho (by rw[hy];simpa using hG)⟩
 ·rename_i φ x hq
  split at h
  ·rename_i q
   refine⟨_,h,fun{w0 keep E s a w} hR hl=> ?_⟩
   have hv:=hR.get d
   rw[hl d ew,hq,ae] at hv
   by_cases nU:φ
   ·have hy:=xf mV (bq (hv.1 nU))
    exact⟨fun hG=>xg ho (by rw[hy,hG.2]),fun hG=>oS ho (by rw[hy];intro e;exact hG ⟨nU,by simpa using e⟩)⟩
   ·have hy:=xh mV (hv.2 nU)
    exact⟨fun hG=>absurd hG.1 nU,fun hG=>oS ho (by rw[hy];simp)⟩
  ·refine⟨False,h.2,fun{w0 keep E s a w} hR hl=> ?_⟩
   have hv:=hR.get d
   rw[hl d ew,hq,ae] at hv
   have hy:=xh mV (hv.2 h.1)
   exact⟨fun hG=>hG.elim,fun hG=>oS ho (by rw[hy];simp)⟩
  ·exact h.elim
 ·exact h.elim
theorem Fs {tb : TypeId → Option TI} (ay : cD P tb) {p : Nat} {ops : Array Oper} {V : Nat → Option J} {bE : Bool} {o : Oper} {s0 : St} {K : St → Prop} (h : AY tb P p ops.toList V bE o s0 K) :
    ∃post:AV→Us→Prop,(∀v us,post v us→lD V bE (fN p o.dst) us∧K ⟨bc s0.t o.dst v,aM s0.H us⟩)∧sh P ops o s0.t V post∧(mY o=false→∃v us,post=fun v' ie=>v'=v∧ie=us):=by
 have one : ∀ {v : AV} {us : Us}, lD V bE (fN p o.dst) us → K ⟨bc s0.t o.dst v, aM s0.H us⟩ → sh P ops o s0.t V (fun v' ie => v' = v ∧ ie = us) →
     ∃post:AV→Us→Prop,(∀v us,post v us→lD V bE (fN p o.dst) us∧K ⟨bc s0.t o.dst v,aM s0.H us⟩)∧sh P ops o s0.t V post∧(mY o=false→∃v us,post=fun v' ie=>v'=v∧ie=us):=by
  intro v us h1 h2 h3
  exact⟨_,fun v' ie⟨e1,e2⟩=>by subst e1;subst e2;exact⟨h1,h2⟩,h3,fun _=>⟨v,us,rfl⟩⟩
 unfold AY at h
 split at h
 ·rename_i hg
  have AZ:∀tm,Region.wanted o (yielded ops tm)=true:=fun tm=>by unfold Region.wanted;simp only[hg]
  have uB:AW tb p V bE o s0 K→∃post:AV→Us→Prop,(∀v us,post v us→lD V bE (fN p o.dst) us∧K ⟨bc s0.t o.dst v,aM s0.H us⟩)∧sh P ops o s0.t V post∧(mY o=false→∃v us,post=fun v' ie=>v'=v∧ie=us):=by
   rintro⟨jX,h⟩
   obtain⟨Φ,v,us,⟨eb,cq,hK⟩,hs⟩:=xa ay h
   refine one cq hK fun w0 keep E s a w Q hR hl hV=> .inl ⟨AZ _,?_⟩
   obtain⟨cv,w',E',h1,h2,h3⟩:=hs eb E s.H w a.eval hR.hr hV (xD hR hl jX)
   exact uA hR h1 h2 h3 ⟨rfl,rfl⟩
  unfold Fl at h
  split at h
  ·rename_i c cU
   split at h
   ·rename_i f hc
    obtain⟨post,jY,hex⟩:=Fp (ops:=ops) cU hc h.1 h.2
    refine⟨post,jY,fun w0 keep E s a w Q hR hl hV=> .inl ⟨AZ _,hex w0 keep E s a w Q hR hl hV⟩,fun de=> ?_⟩
    simp[mY,cU,hc] at de
   ·exact uB h
  ·rename_i c x y cU
   obtain⟨Φ,v,⟨eb,hK⟩,hv⟩:=Fq (ops:=ops) cU h
   refine one (us:=[]) trivial hK fun w0 keep E s a w Q hR hl hV=> .inl ⟨AZ _,?_⟩
   obtain⟨q,h1,h2⟩:=hv eb hR hl
   exact uA hR (.inl (AD cU h1 w)) h2 (Out.same hR.hr) ⟨rfl,rfl⟩
  ·exact uB h
 ·rename_i j b hg
  obtain⟨G,h,hw⟩:=LV hg h
  have uB:xC tb p V bE o s0 G K→∃post:AV→Us→Prop,(∀v us,post v us→lD V bE (fN p o.dst) us∧K ⟨bc s0.t o.dst v,aM s0.H us⟩)∧sh P ops o s0.t V post∧(mY o=false→∃v us,post=fun v' ie=>v'=v∧ie=us):=by
   intro h
   unfold xC at h
   rcases qg h with⟨hG,h⟩ | h
   ·exact one (us:=[]) trivial h fun w0 keep E s a w Q hR hl hV=> .inr ⟨(hw hR hl).2 hG,_,_,⟨rfl,rfl⟩,hR.put (Out.same hR.hr) (ly (fun h=>h))⟩
   obtain⟨Φ,v,us,h,hs⟩:=xa ay h
   cases us with
   | nil=>
    obtain⟨eb,_,hK⟩:=h
    refine one (us:=[]) trivial hK fun w0 keep E s a w Q hR hl hV=> ?_
    obtain⟨jv,iB⟩:=hw hR hl
    by_cases hG:G
    ·obtain⟨jX,eb⟩:=eb hG
     obtain⟨cv,w',E',h1,h2,h3⟩:=hs eb E s.H w a.eval hR.hr hV (xD hR hl jX)
     exact .inl ⟨jv hG,uA hR h1 (xj hG h2) h3 ⟨rfl,rfl⟩⟩
    ·exact .inr ⟨iB hG,_,_,⟨rfl,rfl⟩,hR.put (Out.same hR.hr) (ly hG)⟩
   | cons u us=>
    by_cases hG:G
    ·obtain⟨⟨jX,eb,cq⟩,hK⟩:=h.1 hG
     refine one cq hK fun w0 keep E s a w Q hR hl hV=> .inl ⟨(hw hR hl).1 hG,?_⟩
     obtain⟨cv,w',E',h1,h2,h3⟩:=hs eb E s.H w a.eval hR.hr hV (xD hR hl jX)
     exact uA hR h1 h2 h3 ⟨rfl,rfl⟩
    ·exact one (us:=[]) trivial (h.2 hG) fun w0 keep E s a w Q hR hl hV=> .inr ⟨(hw hR hl).2 hG,_,_,⟨rfl,rfl⟩,hR.put (Out.same hR.hr) (ly (fun h=>h))⟩
  unfold Fm at h
  split at h
  ·rename_i c cU
   split at h
   ·rename_i f hc
    by_cases hG:G
    ·obtain⟨jX,h⟩:=h.1 hG
     obtain⟨post,jY,hex⟩:=Fp (ops:=ops) cU hc jX h
     refine⟨post,jY,fun w0 keep E s a w Q hR hl hV=> .inl ⟨(hw hR hl).1 hG,hex w0 keep E s a w Q hR hl hV⟩,fun de=> ?_⟩
     simp[mY,cU,hc] at de
    ·exact one (us:=[]) trivial (h.2 hG) fun w0 keep E s a w Q hR hl hV=> .inr ⟨(hw hR hl).2 hG,_,_,⟨rfl,rfl⟩,hR.put (Out.same hR.hr) (ly (fun h=>h))⟩
   ·exact uB h
  ·rename_i c x y cU
   rcases qg h with⟨hG,h⟩ | h
   ·exact one (us:=[]) trivial h fun w0 keep E s a w Q hR hl hV=> .inr ⟨(hw hR hl).2 hG,_,_,⟨rfl,rfl⟩,hR.put (Out.same hR.hr) (ly (fun h=>h))⟩
   obtain⟨Φ,v,⟨eb,hK⟩,hv⟩:=Fq (ops:=ops) cU h
   refine one (us:=[]) trivial hK fun w0 keep E s a w Q hR hl hV=> ?_
   obtain⟨jv,iB⟩:=hw hR hl
   by_cases hG:G
   ·obtain⟨q,h1,h2⟩:=hv (eb hG) hR hl
    exact .inl ⟨jv hG,uA hR (.inl (AD cU h1 w)) (xj hG h2) (Out.same hR.hr) ⟨rfl,rfl⟩⟩
   ·exact .inr ⟨iB hG,_,_,⟨rfl,rfl⟩,hR.put (Out.same hR.hr) (ly hG)⟩
  ·exact uB h
end
end Go.Proofs.YtpbpiehcchannaaGreatDoor
