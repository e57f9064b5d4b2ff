/- Abstract values: further operations, regions, code, functions. Conditions: none. -/
import Derived.Test.YtpbpiehcchannaaGreatDoorJAa
import Derived.Test.YtpbpiehcchannaaGreatDoorJRg
import Derived.Scope
import Derived.RangeFuncLeaves
import Derived.OrdersIn
import Derived.TacticsIn
import Derived.OwnWalkIn
import Derived.KernelRfl
/-! Abstract values: append, make, literals, as operations. Conditions: what 'TIok' says of the types. -/
namespace Go.Proofs.YtpbpiehcchannaaGreatDoor
set_option linter.unusedVariables false
set_option linter.unusedSimpArgs false
open Go.RowKit
section
variable {P:Program} {o:Oper} {ev:Operand→AV} {hg:Nat→Option U}
theorem Bq{l:List UInt8}{i:Nat}{ys:List AV}:(dq l)[i]? =some ys↔∃b,l[i]? =some b∧ys=[.val (bv b)]:=by
 simp only[dq,List.getElem?_map,Option.map_eq_some_iff]
 constructor
 ·rintro⟨b,h1,h2⟩;exact⟨b,h1,h2.symm⟩
 ·rintro⟨b,h1,h2⟩;exact⟨b,h1,h2.symm⟩
theorem xg:∀(us gq:List (Nat×U))(H:List U),aK H (us++gq)=aK (aK H us) gq
 | [],gq,H=>rfl
 | (r,e)::us,gq,H=>by simp only[List.cons_append,aK];exact xg us gq _
theorem Out.trans{E E1 E2:Env}{w w1 w2:World}{H:List U}{us gq:List (Nat×U)}(o:Out E E1 w w1 H us)(o':Out E1 E2 w1 w2 (aK H us) gq):Out E E2 w w2 H (us++gq):=by
 refine⟨o.ext.trans o'.ext,by rw[xg];exact o'.hr,o'.os.trans o.os,o'.tape.trans o.tape,o'.output.trans o.output,Nat.le_trans o.size o'.size,fun z b h=> ?_,fun k cur T fz h=> ?_,fun k hk h=> ?_,fun r e b hr hl=> ?_⟩
 ·rcases o'.aD z b h with h1 | h1 | ⟨r,e,h1,h2⟩
  ·exact o.aD z b h1
  ·exact .inr (.inl (Nat.le_trans o.size h1))
  ·rcases o.rows r e b h1 h2 with h3 | ⟨r0,e0,h3,h4,_⟩
   ·exact .inr (.inl h3)
   ·exact .inr (.inr ⟨r0,e0,h3,h4⟩)
 ·obtain⟨c1,T1,f1,h1,h2⟩:=o.grow k cur T fz h
  obtain⟨c2,T2,f2,h3,h4⟩:=o'.grow k c1 T1 f1 h1
  exact⟨c2,T2,f2,h3,Nat.le_trans h2 h4⟩
 ·have hb:=o.block k hk (fun r e hr hl bV=>h r e hr hl (by rw[List.map_append];exact List.mem_append_left _ bV))
  refine(o'.block k (Nat.lt_of_lt_of_le hk o.size) (fun r e hr hl bV=> ?_)).trans hb
  rcases o.rows r e k hr hl with h1 | ⟨r0,e0,h2,h3,h4⟩
  ·omega
  ·refine h r0 e0 h2 h3 ?_
   rw[List.map_append]
   rcases h4 with rfl | h4
   ·exact List.mem_append_right _ bV
   ·exact List.mem_append_left _ h4
 ·rw[xg] at hr
  rcases o'.rows r e b hr hl with h1 | ⟨r0,e0,h2,h3,h7⟩
  ·exact .inl (Nat.le_trans o.size h1)
  ·rcases o.rows r0 e0 b h2 h3 with h4 | ⟨r1,e1,h5,h6,h8⟩
   ·exact .inl (by omega)
   ·refine .inr ⟨r1,e1,h5,h6,?_⟩
    rw[List.map_append]
    rcases h8 with rfl | h8
    ·exact h7.imp id (List.mem_append_right _)
    ·exact .inr (List.mem_append_left _ h8)
def qb(tb:TypeId→Option TI)(hg:Nat→Option U)(Tx:TypeId)(ei:TI)(x:AV)(K:Prop→Nat→List (List AV)→Prop):Prop:=match tb Tx with
 | none=>False
 | some xi=>match xi.u with
  | .int _=>match x with
   | .val (.int _ n)=>match ei.zero with
    | [u]=>K (0≤n∧n.toNat*ei.bytes≤140737488355328∧n≤9223372036854775807∧u.oneCell'=true∧ei.sz=1) 1 (List.replicate n.toNat [.val u])
    | _=>False
   | _=>False
  | _=>xd tb hg Tx x K
theorem uf {tb : TypeId → Option TI} (aA : cj P tb) {T Tx ty El : TypeId} {ei : TI} (hT : P.underlying T = some (.slice El)) {i : TypeInfo} {z : Value} (hi : P.info? El = some i) (kg : i.zero = some z) (kM : i.size = ei.sz) (jN : i.bytes = ei.bytes) (dA : z.cells.toList = ei.zero)
    {x:AV} {K:Prop→Nat→List (List AV)→Prop} (h:qb tb hg Tx ei x K):
    ∃Ψ sz els,K Ψ sz els∧(Ψ→∀(E:Env)(H:List U)(w:World)(v:Value),HR E w H→(∀(r:Nat)(e:U),hg r=some e→H[r]? =some e)→ah E w x v→
     (els=[]∨ei.sz=sz)→∃news,Ap P T Tx ty El i z v els.length news w∧∀k ys,els[k]? =some ys→∃us:List Value,us.length=ei.sz∧aw E w ys us∧∀j u,us[j]? =some u→news[k*ei.sz+j]? =some u):=by
 unfold qb at h
 split at h
 ·exact h.elim
 rename_i xi xe
 have fB:=(aA Tx xi xe).u
 split at h
 ·rename_i kn hu
  rw[hu] at fB
  have Hm:P.underlying Tx=some (.int kn):=fB
  split at h
  rotate_left
  ·exact h.elim
  rename_i k n
  split at h
  rotate_left
  ·exact h.elim
  rename_i u iQ
  refine⟨_,_,_,h,fun p E H w v hr hh hv hs=> ?_⟩
  obtain⟨p1,p2,p3,p4,p5⟩:=p
  have hv:=aY hv
  have hn:(n:Int)=(n.toNat:Int):=by omega
  have w9:z.cells= #[u]:=by apply Array.ext';rw[dA,iQ]
  refine⟨List.replicate n.toNat u,?_,fun k ys hy=> ?_⟩
  ·rw[hv,List.length_replicate,hn]
   exact Ap.G9 hT Hm hi kg w9 p4 (by omega) (by omega) (by rw[jN];omega)
  ·rw[List.getElem?_replicate] at hy
   split at hy
   ·rename_i hk
    cases hy
    refine⟨[u],by rw[p5];rfl,by simp only[aw,ah];exact⟨_,_,rfl,rfl,rfl⟩,fun j v hv=> ?_⟩
    cases j with
    | zero=>simp at hv;subst hv;rw[p5,Nat.mul_one,Nat.add_zero,List.getElem?_replicate,if_pos hk]
    | succ j=>simp at hv
   ·cases hy
 ·obtain⟨Ψ,sz,els,h1,h2⟩:=Hi aA h
  refine⟨Ψ,sz,els,h1,fun p E H w v hr hh hv hs=> ?_⟩
  obtain⟨news,h3,h4⟩:=h2 p E H w v hr hh hv ei.sz hs
  exact⟨news,Ap.G8 hT hi kg (by rw[kM];exact h3),h4⟩
/-! append -/
def xh(tb:TypeId→Option TI)(hg:Nat→Option U)(p:Nat)(o:Oper)(T Tx:TypeId)(s x:AV)(K:KF):Prop:=match tb T with
 | none=>False
 | some ti=>match ti.u with
  | .slice El=>match tb El with
   | none=>False
   | some ei=>match s with
    | .own r ver sz off n=>match hg r with
     | none=>False
     | some e=>match e.bd with
      | .bytes l=>qb tb hg Tx ei x fun Ψ s2 els=>∃m,K (ver=e.ver∧Ψ∧sz=1∧ei.sz=1∧off=0∧n=l.length∧s2=1∧els=dq m∧(l.length+m.length)*ei.bytes≤140737488355328∧0<ei.bytes) (.own r (e.ver+1) 1 0 (l.length+m.length)) [(r,⟨e.ver+1,.bytes (l++m)⟩)]
      | .row sz' f d l=>qb tb hg Tx ei x fun Ψ s2 els=>∃(β:Type)(f':β→List AV)(d':β)(m:List β),K (ver=e.ver∧Ψ∧sz=sz'∧ei.sz=sz'∧off=0∧n=l.length∧(els=[]∨s2=sz')∧l.map f++els=m.map f'∧m.length*ei.bytes≤140737488355328∧0<ei.bytes) (.own r (e.ver+1) sz' 0 m.length) [(r,⟨e.ver+1,.row sz' f' d' m⟩)]
      | _=>False
    | .val (.slice none 0 0)=>match o.dst with
     | none=>False
     | some d=>match hg (p+d) with
      | none=>False
      | some e=>match ei.u with
       | .int .u8=>qb tb hg Tx ei x fun Ψ s2 els=>∃m,K (Ψ∧ei.sz=1∧s2=1∧els=dq m∧m.length*ei.bytes≤140737488355328∧0<ei.bytes) (.own (p+d) (e.ver+2) 1 0 m.length) [(p+d,⟨e.ver+1,.bytes []⟩),(p+d,⟨e.ver+2,.bytes m⟩)]
       | _=>qb tb hg Tx ei x fun Ψ s2 els=>∃(β:Type)(f':β→List AV)(d':β)(m:List β),K (Ψ∧(els=[]∨s2=ei.sz)∧els=m.map f'∧m.length*ei.bytes≤140737488355328∧0<ei.bytes) (.own (p+d) (e.ver+2) ei.sz 0 m.length) [(p+d,⟨e.ver+1,.row ei.sz f' d' []⟩),(p+d,⟨e.ver+2,.row ei.sz f' d' m⟩)]
    | _=>False
  | _=>False
theorem ug{a b:Nat}(h:a*b≤140737488355328)(hb:0<b):a≤maxLen:=by
 have:a*1≤a*b:=Nat.mul_le_mul_left _ hb
 unfold maxLen;omega
theorem Hn{tb:TypeId→Option TI}(aA:cj P tb){p:Nat}{T Tx:TypeId}{s x:Operand}(ho:o.op= .call {callee:= .builtin .append,args:= #[s,x],argTypes:= #[T,Tx]})
 {K:KF} (h:xh tb hg p o T Tx (ev s) (ev x) K):∃Φ v us,K Φ v us∧aW P o ev hg Φ v us:=by
  unfold xh at h
  split at h
  ·exact h.elim
  rename_i ti bF
  have hT:=(aA T ti bF).u
  split at h
  rotate_left
  ·exact h.elim
  rename_i El hu
  rw[hu] at hT
  have bB:P.underlying T=some (.slice El):=hT
  split at h
  ·exact h.elim
  rename_i ei fk
  have hE:=aA El ei fk
  obtain⟨z,hz,dA⟩:=hE.info
  obtain⟨i,hi,kg,kM,jN⟩:=info_parts hz
  have gV:∀{E:Env}{w:World}{ao:Operand→Value},(∀x∈aQ o.op,ah E w (ev x) (ao x))→ah E w (ev s) (ao s)∧ah E w (ev x) (ao x):=by
   intro E w ao ay
   rw[ho] at ay
   exact⟨ay s (by simp[aQ]),ay x (by simp[aQ])⟩
  have hex:∀{w w':World}{ao:Operand→Value}{v:Value},(Builtin.append_ #[T,Tx] o.type #[ao s,ao x]).run P w= .ok v w'→(execOp ao o).run P w= .ok (.value v) w':=by
   intro w w' ao v hr
   unfold execOp
   simp only[ho,resolve,invoke,builtin,Sem.run_bind,Sem.run_pure,Result.andThen_ok,List.map_toArray,List.map_cons,List.map_nil,hr]
  split at h
  ·rename_i r ver sz off n hs
   split at h
   ·exact h.elim
   rename_i e he
   split at h
   ·rename_i l hb
    obtain⟨Ψ,s2,els,h,mq⟩:=uf (ty:=o.type) aA bB hi kg kM jN dA h
    obtain⟨m,h⟩:=h
    refine⟨_,_,_,h,fun q E H w ao hr hh ay=> ?_⟩
    obtain⟨q1,q2,q3,q4,q5,q6,q7,q8,q9,ox⟩:=q
    obtain⟨hv,hx⟩:=gV ay
    rw[hs,q3,q5] at hv
    have hH:=hh r e he
    obtain⟨news,lD,cS⟩:=mq q2 E H w _ hr hh hx (.inr (q4.trans q7.symm))
    have hlen:els.length=m.length:=by rw[q8];simp[dq]
    rw[hlen] at lD
    obtain⟨cv,w',E',h1,h2,h3⟩:=ud (ty:=o.type) (bd':= .bytes (l++m)) bB hE hr hH hv (q1.trans (hr.ver r e hH).symm) hi kg kM jN dA lD (by rw[hb,q6];rfl) (by rw[hb];rfl) q4 (by rw[hb];rfl) (by rw[q6];simp[Bd.count]) rfl rfl (fun i ys hy=>by
        simp only[Bd.at,List.getElem?_append,Option.map_eq_some_iff] at hy
        obtain⟨b,eo,rfl⟩:=hy
        split at eo
        ·rename_i ai
         exact .inl ⟨by omega,by rw[hb];simp[Bd.at,eo]⟩
        ·rename_i ai
         refine .inr ⟨by omega,?_⟩
         obtain⟨us,k1,k2,k3⟩:=cS (i - l.length) [.val (bv b)] (by rw[q8];exact Bq.2 ⟨b,eo,rfl⟩)
         rw[q4] at k1 k3
         exact⟨us,k1,k2,fun j u hu=>by rw[q6];exact k3 j u hu⟩) (fun i hi=>by rw[hb];simp only[Bd.at];rw[List.getElem?_eq_getElem (by omega)];exact⟨_,rfl⟩) (by rw[q6];exact q9) (by rw[q6];exact ug q9 ox)
    refine⟨cv,w',E',.inl (hex h1),?_,h3⟩
    rw[q6] at h2;exact h2
   ·rename_i sz' α f d l hb
    obtain⟨Ψ,s2,els,h,mq⟩:=uf (ty:=o.type) aA bB hi kg kM jN dA h
    obtain⟨β,f',d',m,h⟩:=h
    refine⟨_,_,_,h,fun q E H w ao hr hh ay=> ?_⟩
    obtain⟨q1,q2,q3,q4,q5,q6,q7,q8,q9,ox⟩:=q
    obtain⟨hv,hx⟩:=gV ay
    rw[hs,q3,q5] at hv
    have hH:=hh r e he
    obtain⟨news,lD,cS⟩:=mq q2 E H w _ hr hh hx (q7.imp id fun h=>q4.trans h.symm)
    rw[q4] at cS
    have Br:m.length=l.length+els.length:=by have:=congrArg List.length q8;simpa using this.symm
    have Ho:∀(i:Nat) b,m[i]? =some b→(l.map f++els)[i]? =some (f' b):=fun i b hb=>by rw[q8];simp[hb]
    rw[Br] at q9⊢
    obtain⟨cv,w',E',h1,h2,h3⟩:=ud (ty:=o.type) (bd':= .row sz' f' d' m) bB hE hr hH hv (q1.trans (hr.ver r e hH).symm) hi kg kM jN dA lD (by rw[hb,q6];rfl) (by rw[hb];rfl) q4 (by rw[hb];rfl) (by rw[q6];simp only[Bd.count];exact Br) rfl rfl (fun i ys hy=>by
        simp only[Bd.at,Option.map_eq_some_iff] at hy
        obtain⟨b,eo,rfl⟩:=hy
        have jF:=Ho i b eo
        rw[List.getElem?_append] at jF
        split at jF
        ·rename_i ai
         rw[List.length_map] at ai
         exact .inl ⟨by omega,by rw[hb];simpa [Bd.at] using jF⟩
        ·rename_i ai
         rw[List.length_map] at ai jF
         refine .inr ⟨by omega,?_⟩
         obtain⟨us,k1,k2,k3⟩:=cS (i - l.length) (f' b) jF
         exact⟨us,k1,k2,fun j u hu=>by rw[q6];exact k3 j u hu⟩) (fun i hi=>by rw[hb];simp only[Bd.at];rw[List.getElem?_eq_getElem (by omega)];exact⟨_,rfl⟩) (by rw[q6];exact q9) (by rw[q6];exact ug q9 ox)
    refine⟨cv,w',E',.inl (hex h1),?_,h3⟩
    rw[q6] at h2;exact h2
   ·exact h.elim
  ·rename_i hs
   split at h
   ·exact h.elim
   rename_i d hd
   split at h
   ·exact h.elim
   rename_i e he
   -- the row that is begun: nothing, without a block
   have start : ∀ {E : Env} {H : List U} {w : World} {ao : Operand → Value} (xj : Bd) (sz : Nat), HR E w H → H[p + d]? = some e → ah E w (ev s) (ao s) → xj.count = 0 →
       ah (E.gn (p+d) (e.ver+1)) w (.own (p+d) (e.ver+1) sz 0 0) (ao s)∧Out E (E.gn (p+d) (e.ver+1)) w w H [(p+d,⟨e.ver+1,xj⟩)]∧(E.gn (p+d) (e.ver+1)).ver (p+d)=e.ver+1:=by
    intro E H w ao xj sz hr hH hv h0
    rw[hs] at hv
    refine⟨?_,Out.Bf hr hH (by omega) h0,by simp[Env.gn]⟩
    rw[aY hv,ah]
    exact⟨by simp[Env.gn],fun _=>⟨none,0,rfl,Nat.le_refl _,Nat.zero_le _,fun _=>rfl,.inl rfl⟩⟩
   split at h
   ·obtain⟨Ψ,s2,els,h,mq⟩:=uf (ty:=o.type) aA bB hi kg kM jN dA h
    obtain⟨m,h⟩:=h
    refine⟨_,_,_,h,fun q E H w ao hr hh ay=> ?_⟩
    obtain⟨q2,q4,q7,q8,q9,ox⟩:=q
    obtain⟨hv,hx⟩:=gV ay
    have hH:=hh _ e he
    have ai:=(List.getElem?_eq_some_iff.1 hH).1
    obtain⟨news,lD,cS⟩:=mq q2 E H w _ hr hh hx (.inr (q4.trans q7.symm))
    have hlen:els.length=m.length:=by rw[q8];simp[dq]
    rw[hlen] at lD
    obtain⟨qc,o1,xm⟩:=start (.bytes []) 1 hr hH hv rfl
    have mr:(aK H [(p+d,⟨e.ver+1,.bytes []⟩)])[p+d]? =some ⟨e.ver+1,.bytes []⟩:=by
     simp only[aK,bI];exact List.getElem?_set_self ai
    obtain⟨cv,w',E',h1,h2,h3⟩:=ud (ty:=o.type) (bd':= .bytes m) bB hE o1.hr mr qc xm.symm hi kg kM jN dA lD rfl rfl q4 rfl (by simp[Bd.count]) rfl rfl (fun i ys hy=>by
        simp only[Bd.at,Option.map_eq_some_iff] at hy
        obtain⟨b,eo,rfl⟩:=hy
        refine .inr ⟨Nat.zero_le _,?_⟩
        obtain⟨us,k1,k2,k3⟩:=cS i [.val (bv b)] (by rw[q8];exact Bq.2 ⟨b,eo,rfl⟩)
        rw[q4] at k1 k3
        exact⟨us,k1,fw o1.ext _ _ k2,fun j u hu=>by rw[Nat.sub_zero];exact k3 j u hu⟩) (fun i hi=>absurd hi (Nat.not_lt_zero i)) (by rw[Nat.zero_add];exact q9) (by rw[Nat.zero_add];exact ug q9 ox)
    refine⟨cv,w',E',.inl (hex h1),?_,o1.trans h3⟩
    rw[Nat.zero_add] at h2;exact h2
   ·obtain⟨Ψ,s2,els,h,mq⟩:=uf (ty:=o.type) aA bB hi kg kM jN dA h
    obtain⟨β,f',d',m,h⟩:=h
    refine⟨_,_,_,h,fun q E H w ao hr hh ay=> ?_⟩
    obtain⟨q2,q7,q8,q9,ox⟩:=q
    obtain⟨hv,hx⟩:=gV ay
    have hH:=hh _ e he
    have ai:=(List.getElem?_eq_some_iff.1 hH).1
    obtain⟨news,lD,cS⟩:=mq q2 E H w _ hr hh hx (q7.imp id Eq.symm)
    have hlen:els.length=m.length:=by rw[q8];simp
    rw[hlen] at lD
    obtain⟨qc,o1,xm⟩:=start (.row ei.sz f' d' []) ei.sz hr hH hv rfl
    have mr:(aK H [(p+d,⟨e.ver+1,.row ei.sz f' d' []⟩)])[p+d]? =some ⟨e.ver+1,.row ei.sz f' d' []⟩:=by
     simp only[aK,bI];exact List.getElem?_set_self ai
    obtain⟨cv,w',E',h1,h2,h3⟩:=ud (ty:=o.type) (bd':= .row ei.sz f' d' m) bB hE o1.hr mr qc xm.symm hi kg kM jN dA lD rfl rfl rfl rfl (by simp[Bd.count]) rfl rfl (fun i ys hy=>by
        simp only[Bd.at,Option.map_eq_some_iff] at hy
        obtain⟨b,eo,rfl⟩:=hy
        refine .inr ⟨Nat.zero_le _,?_⟩
        obtain⟨us,k1,k2,k3⟩:=cS i (f' b) (by rw[q8];simp[eo])
        exact⟨us,k1,fw o1.ext _ _ k2,fun j u hu=>by rw[Nat.sub_zero];exact k3 j u hu⟩) (fun i hi=>absurd hi (Nat.not_lt_zero i)) (by rw[Nat.zero_add];exact q9) (by rw[Nat.zero_add];exact ug q9 ox)
    refine⟨cv,w',E',.inl (hex h1),?_,o1.trans h3⟩
    rw[Nat.zero_add] at h2;exact h2
  ·exact h.elim
/-! literals -/
theorem Bt {off : Nat} : ∀ (vs : List Value) (k : Nat) (cells : Array Value), off + k + vs.length ≤ cells.size →
    ((vs.zipIdx k).foldl (fun cs(c,j)=>cs.setIfInBounds (off+j) c) cells).toList=cells.toList.take (off+k)++vs++cells.toList.drop (off+k+vs.length)
 | [],k,cells,h=>by simp
 | v::vs,k,cells,h=>by
  simp only[List.length_cons] at h
  simp only[List.zipIdx_cons,List.foldl_cons]
  rw[Bt vs (k+1) _ (by simp;omega)]
  apply List.ext_getElem?
  intro i
  have hs:cells.toList.length=cells.size:=by simp
  simp only[Array.toList_setIfInBounds,List.getElem?_append,List.length_append,List.length_take,List.length_set,List.getElem?_take,List.getElem?_drop,List.getElem?_set,List.length_cons,Array.length_toList]
  by_cases hi:i<off+k
  ·have a1:i<min (off+(k+1)) cells.size:=by omega
   have a2:i<min (off+k) cells.size:=by omega
   have a3:i<min (off+(k+1)) cells.size+vs.length:=by omega
   have a4:i<min (off+k) cells.size+(vs.length+1):=by omega
   have a5:off+k≠i:=by omega
   have a6:i<off+(k+1):=by omega
   simp[a1,a2,a3,a4,a5,a6,hi]
  ·by_cases xn:i=off+k
   ·subst xn
    have a1:off+k<min (off+(k+1)) cells.size:=by omega
    have a3:off+k<min (off+(k+1)) cells.size+vs.length:=by omega
    have a2:¬off+k<min (off+k) cells.size:=by omega
    have a4:off+k<min (off+k) cells.size+(vs.length+1):=by omega
    have a5:off+k<cells.size:=by omega
    have a6:off+k - min (off+k) cells.size=0:=by omega
    have a7:off+k<off+(k+1):=by omega
    simp[a1,a2,a3,a4,a5,a6,a7]
   ·have e1:min (off+(k+1)) cells.size=off+k+1:=by omega
    have e2:min (off+k) cells.size=off+k:=by omega
    rw[e1,e2]
    by_cases bV:i<off+k+1+vs.length
    ·have a1:¬i<off+k+1:=by omega
     have a2:¬i<off+k:=by omega
     have a4:i<off+k+(vs.length+1):=by omega
     have a5:i - (off+k)=(i - (off+k+1))+1:=by omega
     simp only[bV,a1,a2,a4,if_true,if_false,a5,List.getElem?_cons_succ]
    ·have a4:¬i<off+k+(vs.length+1):=by omega
     have a5:¬off+k=off+(k+1)+vs.length+(i - (off+k+1+vs.length)):=by omega
     simp only[bV,a4,if_false,a5]
     congr 1;omega
def oy(hg:Nat→Option U)(place:Nat→Option (Nat×Nat)):List (Nat×AV)→List AV→(Prop→List AV→Prop)→Prop
 | [],zs,K=>K True zs
 | (k,x)::rest,zs,K=>match place k with
  | none=>False
  | some (off,sz)=>oy hg place rest (jK zs off (eH x)) fun Φ l=>K ((eH x).length=sz∧jJ hg (eH x)∧off+sz≤zs.length∧Φ) l
theorem xo {place : Nat → Option (Nat × Nat)} : ∀ {parts : List (Nat × Operand)} {zs : List AV} {K : Prop → List AV → Prop}, oy hg place (parts.map fun p => (p.1, ev p.2)) zs K →
    ∃Φ l,K Φ l∧(Φ→∀(E:Env)(H:List U)(w:World)(ao:Operand→Value)(cells:Array Value),HR E w H→(∀(r:Nat)(e:U),hg r=some e→H[r]? =some e)→(∀x∈parts.map (·.2),ah E w (ev x) (ao x))→aw E w zs cells.toList→
     ∃cells',Instr.fill place cells (parts.map fun p=>(p.1,ao p.2))=some cells'∧aw E w l cells'.toList)
 | [],zs,K,h=>⟨_,_,h,fun _ E H w ao cells _ _ _ hz=>⟨cells,rfl,hz⟩⟩
 | (k,x)::rest,zs,K,h=>by
  simp only[List.map_cons,oy] at h
  split at h
  ·exact h.elim
  rename_i off sz hp
  obtain⟨Φ,l,h,hl⟩:=xo h
  refine⟨_,l,h,fun p E H w ao cells hr hh ay hz=> ?_⟩
  obtain⟨p1,p2,p3,p4⟩:=p
  obtain⟨f1,f2⟩:=uc p2 hr hh (ay x (by simp))
  have fl:=(eR f1).1
  have zl:=(eR hz).1
  simp only[Array.length_toList] at fl zl
  have jP:=Ba off hz f1
  have Hp:=Bt (off:=off) (ao x).cells.toList 0 cells (by simp;omega)
  have e:(ao x).cells.zipIdx.foldl (fun cs(c,j)=>cs.setIfInBounds (off+j) c) cells=((ao x).cells.toList.zipIdx 0).foldl (fun cs(c,j)=>cs.setIfInBounds (off+j) c) cells:=by
   rw[←Array.foldl_toList,Array.toList_zipIdx]
  obtain⟨cells',h5,h6⟩:=hl p4 E H w ao (((ao x).cells.toList.zipIdx 0).foldl (fun cs(c,j)=>cs.setIfInBounds (off+j) c) cells) hr hh (fun y hy=>ay y (by simp only[List.map_cons,List.mem_cons];exact .inr hy)) (by
   rw[Hp,Nat.add_zero,List.append_assoc];exact jP)
  refine⟨cells',?_,h6⟩
  simp only[List.map_cons,Instr.fill,hp]
  rw[if_neg (by simp;omega),e]
  exact h5
def rY(tb:TypeId→Option TI):List (Nat×TypeId)→Option (List (Nat×Nat))
 | []=>some []
 | (off,ft)::fs=>match tb ft with
  | none=>none
  | some fi=>match rY tb fs with
   | none=>none
   | some l=>some ((off,fi.sz)::l)
def oz{α:Type}:List α→Nat→Option α
 | [],_=>none
 | x::_,0=>some x
 | _::l,n+1=>oz l n
theorem qd{α:Type}:∀(l:List α)(i:Nat),oz l i=l[i]?
 | [],_=>rfl
 | _::_,0=>rfl
 | _::l,i+1=>by simpa [oz] using qd l i
theorem Bu{tb:TypeId→Option TI}(aA:cj P tb):∀{jr:List Field}{l:List (Nat×Nat)},rY tb (jr.map fun f=>(f.offset,f.type))=some l→jr.mapM (fun f=>(P.info? f.type).map fun i=>(f.offset,i.size))=some l
 | [],l,h=>by simp[rY] at h;subst h;rfl
 | f::jr,l,h=>by
  simp only[List.map_cons,rY] at h
  split at h
  ·cases h
  rename_i fi om
  split at h
  ·cases h
  rename_i l' bu
  cases h
  obtain⟨z,hz,_⟩:=(aA _ _ om).info
  obtain⟨i,hi,h1,h2,h3⟩:=info_parts hz
  simp[List.mapM_cons,hi,h2,Bu aA bu]
def xp(tb:TypeId→Option TI)(hg:Nat→Option U)(T:TypeId)(parts:List (Nat×AV))(K:KF):Prop:=match tb T with
 | none=>False
 | some ti=>match ti.u with
  | .struct fs=>match rY tb fs with
   | none=>False
   | some pl=>oy hg (oz pl) parts (ti.zero.map .val) fun Φ l=>K Φ (.agg l) []
  | .array _ El=>match tb El with
   | none=>False
   | some ei=>oy hg (fun i=>some (i*ei.sz,ei.sz)) parts (ti.zero.map .val) fun Φ l=>K Φ (.agg l) []
  | _=>False
theorem Hq{tb:TypeId→Option TI}(aA:cj P tb){T:TypeId}{parts:Array (Nat×Operand)}(ho:o.op= .build T parts){K:KF}(h:xp tb hg T (parts.toList.map fun p=>(p.1,ev p.2)) K):∃Φ v us,K Φ v us∧aW P o ev hg Φ v us:=by
 unfold xp at h
 split at h
 ·exact h.elim
 rename_i ti bF
 have ht:=aA T ti bF
 obtain⟨z,hz,dA⟩:=ht.info
 obtain⟨i,hi,h1,h2,h3⟩:=info_parts hz
 have hT:=ht.u
 have fin : ∀ {place : Nat → Option (Nat × Nat)}, (oy hg place (parts.toList.map fun p => (p.1, ev p.2)) (ti.zero.map .val) fun Φ l => K Φ (.agg l) []) →
     (∀(w:World)(ps:Array (Nat×Value))(cells:Array Value),Instr.fill place z.cells ps.toList=some cells→(Instr.build T ps).run P w= .ok (.agg cells) w)→∃Φ v us,K Φ v us∧aW P o ev hg Φ v us:=by
  intro place h bt
  obtain⟨Φ,l,h,hl⟩:=xo h
  refine⟨_,_,_,h,aW.pure fun p E H w ao hr hh ay=> ?_⟩
  obtain⟨cells',h5,h6⟩:=hl p E H w ao z.cells hr hh (by rw[ho] at ay;exact ay) (by rw[dA];exact mm _)
  refine⟨.agg cells',?_,by rw[ah];exact⟨cells'.toList,by simp,h6⟩⟩
  have h7:=bt w (parts.map fun(i,x)=>(i,ao x)) cells' (by rw[←h5];congr 1;simp)
  unfold execOp
  simp only[ho,Sem.run_bind,h7,Result.andThen_ok,Sem.run_pure]
 split at h
 ·rename_i fs hu
  rw[hu] at hT
  obtain⟨jr,Hr,Hs⟩:=hT
  split at h
  ·exact h.elim
  rename_i pl dG
  rw[←Hs] at dG
  have dG:=Bu aA dG
  refine fin h fun w ps cells xq=>run_build w T ps cells ?_
  unfold Program.built
  simp only[hi,Hr,h1,dG]
  have e:(fun x=>pl.toArray[x]?)=oz pl:=funext fun x=>by rw[qd];simp
  rw[e];exact xq
 ·rename_i n El hu
  rw[hu] at hT
  have bB:P.underlying T=some (.array n El):=hT
  split at h
  ·exact h.elim
  rename_i ei fk
  obtain⟨z2,Ht,_⟩:=(aA El ei fk).info
  obtain⟨i2,c7,h4,h5,h6⟩:=info_parts Ht
  refine fin h fun w ps cells xq=>run_build w T ps cells ?_
  unfold Program.built
  simp only[hi,bB,h1,c7,h5]
  exact xq
 ·exact h.elim
end
end Go.Proofs.YtpbpiehcchannaaGreatDoor

/-! Abstract values: new slices, conversions of bytes, and all operations together ('stepK'). Conditions: what 'TIok' says of the types. -/
namespace Go.Proofs.YtpbpiehcchannaaGreatDoor
set_option linter.unusedVariables false
set_option linter.unusedSimpArgs false
open Go.RowKit
section
variable {P:Program} {o:Oper} {ev:Operand→AV} {hg:Nat→Option U}
def lE(hg:Nat→Option U)(p:Nat)(o:Oper)(n:Nat)(bd:Bd)(K:KF):Prop:=match o.dst with
 | none=>False
 | some d=>match hg (p+d) with
  | none=>False
  | some e=>K True (.own (p+d) (e.ver+1) bd.sz 0 n) [(p+d,⟨e.ver+1,bd⟩)]
theorem qe {p n : Nat} {bd : Bd} {K : KF} {Ψ : Prop} (h : lE hg p o n bd fun Φ v us => K (Ψ ∧ Φ) v us) (bt : Ψ → bd.count = n ∧ ∀ (E : Env) (H : List U) (w : World) (ao : Operand → Value), HR E w H → (∀ (r : Nat) (e : U), hg r = some e → H[r]? = some e) → (∀ x ∈ aQ o.op, ah E w (ev x) (ao x)) →
    ∃(cs:Array Value)(T:TypeId)(c:Nat),(execOp ao o).run P w= .ok (.value (.slice (some ⟨w.heap.size,0,none⟩) n c)) (w.alloc (.cells cs T))∧n≤c∧c≤maxLen∧c*bd.sz≤cs.size∧
     ∀i ys,bd.at i=some ys→∃us:List Value,us.length=bd.sz∧aw E w ys us∧∀j u,us[j]? =some u→cs[i*bd.sz+j]? =some u) (fA:bd.nh=false:=by rfl):∃Φ v us,K Φ v us∧aW P o ev hg Φ v us:=by
 unfold lE at h
 split at h
 ·exact h.elim
 rename_i d hd
 split at h
 ·exact h.elim
 rename_i e he
 refine⟨_,_,_,h,fun p' E H w ao hr hh ay=> ?_⟩
 obtain⟨Hu,bt⟩:=bt p'.1
 obtain⟨cs,T,c,h1,h2,h3,h4,h5⟩:=bt E H w ao hr hh ay
 have O:=Out.new (T:=T) (cs:=cs.toList) (bd':=bd) hr (hh _ _ he) (by rw[Hu];simp;exact Nat.le_trans (Nat.mul_le_mul_right _ h2) h4) (fun i ys hy=>by
  obtain⟨us,k1,k2,k3⟩:=h5 i ys hy
  exact⟨us,k1,k2,fun j u hu=>by simpa using k3 j u hu⟩) fA
 have e1:cs.toList.toArray=cs:=by simp
 rw[e1] at O
 refine⟨_,_,_,.inl h1,?_,O⟩
 rw[ah,Env.jE,Env.ke]
 refine⟨Nat.le_refl _,fun _=>⟨_,c,rfl,h2,h3,(fun h=>by cases h),.inr ⟨Env.np _ _ _ _,by rw[Nat.zero_mul],_,_,_,heap_alloc_new w _,?_⟩⟩⟩
 rw[Nat.zero_add];exact h4
def rZ:List Int→Prop
 | []=>True
 | n::l=>(0≤n∧n≤255)∧rZ l
theorem xr:∀{l:List Int},rZ l→∀n∈l,0≤n∧n≤255
 | n::l,h,m,hm=>by
  rcases List.mem_cons.1 hm with rfl | hm
  ·exact h.1
  ·exact xr h.2 m hm
def xt(tb:TypeId→Option TI)(hg:Nat→Option U)(p:Nat)(o:Oper)(ei:TI)(len:Nat)(cells:List AV)(Ψ:Prop)(K:KF):Prop:=match ei.u with
 | .int .u8=>match mj .u8 cells with
  | some ns=>lE hg p o len (.bytes (ns.map fun n=>UInt8.ofNat n.toNat)) fun Φ v us=>K ((Ψ∧rZ ns∧ns.length=len∧ei.sz=1)∧Φ) v us
  | none=>False
 | .int k=>match mj k cells with
  | some ns=>lE hg p o len (.row 1 (cK k) 0 ns) fun Φ v us=>K ((Ψ∧ns.length=len∧ei.sz=1)∧Φ) v us
  | none=>False
 | _=>lE hg p o len (.row ei.sz (fun i=>fZ (fj cells (i*ei.sz)) ei.sz) 0 (List.range len)) fun Φ v us=>K ((Ψ∧cells.length=len*ei.sz)∧Φ) v us
def nz(n:Nat)(zs:List AV):List AV:=match n with
 | 0=>[]
 | n+1=>zs++nz n zs
def xu(tb:TypeId→Option TI)(hg:Nat→Option U)(p:Nat)(o:Oper)(T:TypeId)(len:Nat)(parts:List (Nat×AV))(K:KF):Prop:=match tb T with
 | none=>False
 | some ti=>match ti.u with
  | .slice El=>match tb El with
   | none=>False
   | some ei=>oy hg (fun i=>some (i*ei.sz,ei.sz)) parts (nz len (ei.zero.map .val)) fun Φ cells=>xt tb hg p o ei len cells (Φ∧len*ei.sz≤16777216∧len≤16777216) K
  | _=>False
theorem Bv(z:Array Value)(sz:Nat)(hz:z.size=sz):∀(n:Nat),((Array.range (n*sz)).map (z[· %z.size]!)).toList=(List.replicate n z.toList).flatten
 | 0=>by simp
 | n+1=>by
  have ih:=Bv z sz hz n
  rw[List.replicate_succ',List.flatten_append,←ih]
  apply List.ext_getElem?
  intro i
  simp only[Array.toList_map,Array.toList_range,List.getElem?_map,List.getElem?_append,List.length_map,List.length_range,List.flatten_cons,List.flatten_nil,List.append_nil]
  by_cases hi:i<n*sz
  ·have h2:i< (n+1)*sz:=by rw[Nat.add_mul];omega
   simp[hi,h2]
  ·rw[if_neg hi]
   by_cases h2:i< (n+1)*sz
   ·have h3:i - n*sz<sz:=by rw[Nat.add_mul,Nat.one_mul] at h2;omega
    have h4:i%sz=i - n*sz:=by
     have:i=(i - n*sz)+sz*n:=by rw[Nat.mul_comm sz n];omega
     rw[this,Nat.add_mul_mod_self_left,Nat.mod_eq_of_lt (by omega)]
     rw[Nat.mul_comm sz n];omega
    rw[List.getElem?_range h2]
    simp only[Option.map_some,hz,h4]
    rw[getElem!_pos z _ (by omega)]
    simp[hz,h3]
   ·have h3:¬i - n*sz<sz:=by rw[Nat.add_mul,Nat.one_mul] at h2;omega
    rw[List.getElem?_eq_none (by simp;omega),List.getElem?_eq_none (by simp[hz];omega)]
    rfl
theorem Bw{E:Env}{w:World}{zs:List AV}{vs:List Value}(h:aw E w zs vs):∀n,aw E w (nz n zs) (List.replicate n vs).flatten
 | 0=>by simp[nz,aw]
 | n+1=>by
  simp only[nz,List.replicate_succ,List.flatten_cons]
  exact lA h (Bw h n)
theorem Hv {tb : TypeId → Option TI} {p len : Nat} {El : TypeId} {ei : TI} {cells : List AV} {Ψ : Prop} {K : KF} (h : xt tb hg p o ei len cells Ψ K) (bt : Ψ → ∀ (E : Env) (H : List U) (w : World) (ao : Operand → Value), HR E w H → (∀ (r : Nat) (e : U), hg r = some e → H[r]? = some e) → (∀ x ∈ aQ o.op, ah E w (ev x) (ao x)) →
    ∃(cs:Array Value)(T:TypeId)(c:Nat),(execOp ao o).run P w= .ok (.value (.slice (some ⟨w.heap.size,0,none⟩) len c)) (w.alloc (.cells cs T))∧len≤c∧c≤maxLen∧c*ei.sz≤cs.size∧∀(i:Nat)(x:AV),cells[i]? =some x→∃u,cs[i]? =some u∧ah E w x u):∃Φ v us,K Φ v us∧aW P o ev hg Φ v us:=by
 unfold xt at h
 split at h
 ·split at h
  rotate_left
  ·exact h.elim
  rename_i ns js
  refine qe h fun q=> ?_
  obtain⟨q1,q2,q3,q4⟩:=q
  refine⟨by simpa [Bd.count] using q3,fun E H w ao hr hh ay=> ?_⟩
  obtain⟨cs,T,c,h1,h2,h3,h4,h5⟩:=bt q1 E H w ao hr hh ay
  refine⟨cs,T,c,h1,h2,h3,by rw[q4] at h4;exact h4,fun i ys hy=> ?_⟩
  simp only[Bd.at,List.getElem?_map,Option.map_eq_some_iff] at hy
  obtain⟨b,⟨n,hn,rfl⟩,rfl⟩:=hy
  have cW:cells[i]? =some (.val (.int .u8 n)):=by rw[pV js];simp[hn]
  obtain⟨u,hu,gm⟩:=h5 i _ cW
  have hb:=xr q2 n (List.mem_of_getElem? hn)
  have ly:u=bv (UInt8.ofNat n.toNat):=by
   rw[aY gm];unfold bv
   congr 1
   simp;omega
  refine⟨[u],rfl,by simp only[aw,ah];exact⟨_,_,rfl,ly,rfl⟩,fun j v hv=> ?_⟩
  cases j with
  | zero=>simp at hv;subst hv;simp only[Bd.sz,Nat.mul_one,Nat.add_zero];exact hu
  | succ j=>simp at hv
 ·rename_i k _ hk
  split at h
  rotate_left
  ·exact h.elim
  rename_i ns js
  refine qe h fun q=> ?_
  obtain⟨q1,q3,q4⟩:=q
  refine⟨by simpa [Bd.count] using q3,fun E H w ao hr hh ay=> ?_⟩
  obtain⟨cs,T,c,h1,h2,h3,h4,h5⟩:=bt q1 E H w ao hr hh ay
  refine⟨cs,T,c,h1,h2,h3,by rw[q4] at h4;exact h4,fun i ys hy=> ?_⟩
  simp only[Bd.at,Option.map_eq_some_iff] at hy
  obtain⟨n,hn,rfl⟩:=hy
  have cW:cells[i]? =some (.val (.int k n)):=by rw[pV js];simp[hn]
  obtain⟨u,hu,gm⟩:=h5 i _ cW
  refine⟨[u],rfl,by simp only[cK,aw];exact⟨_,_,rfl,gm,rfl⟩,fun j v hv=> ?_⟩
  cases j with
  | zero=>simp at hv;subst hv;simp only[Bd.sz,Nat.mul_one,Nat.add_zero];exact hu
  | succ j=>simp at hv
 ·refine qe h fun q=> ?_
  obtain⟨q1,q3⟩:=q
  refine⟨by simp[Bd.count],fun E H w ao hr hh ay=> ?_⟩
  obtain⟨cs,T,c,h1,h2,h3,h4,h5⟩:=bt q1 E H w ao hr hh ay
  refine⟨cs,T,c,h1,h2,h3,h4,fun i ys hy=> ?_⟩
  simp only[Bd.at,Option.map_eq_some_iff] at hy
  obtain⟨i',bG,rfl⟩:=hy
  have ai:i<len:=by have:=(List.getElem?_eq_some_iff.1 bG).1;simpa using this
  rw[List.getElem?_range ai] at bG
  cases bG
  have hle:(i+1)*ei.sz≤len*ei.sz:=Nat.mul_le_mul_right _ ai
  rw[Nat.add_mul,Nat.one_mul] at hle
  have PU:=Nat.le_trans (Nat.mul_le_mul_right ei.sz h2) h4
  rw[pQ,pP]
  refine⟨(cs.toList.drop (i*ei.sz)).take ei.sz,by simp[Bd.sz];omega,rC (by simp;omega) (fun j x u hx hu=> ?_),fun j u hu=> ?_⟩
  ·rw[List.getElem?_take] at hx hu
   split at hx
   ·rename_i hj
    rw[if_pos hj] at hu
    rw[List.getElem?_drop] at hx hu
    obtain⟨u',oA,gm⟩:=h5 _ _ hx
    have:cs[i*ei.sz+j]? =some u:=by simpa using hu
    rw[this] at oA;cases oA;exact gm
   ·cases hx
  ·rw[List.getElem?_take] at hu
   split at hu
   ·rw[List.getElem?_drop] at hu;simpa [Bd.sz] using hu
   ·cases hu
theorem Hw{tb:TypeId→Option TI}(aA:cj P tb){p:Nat}{T:TypeId}{len:Nat}{parts:Array (Nat×Operand)}(ho:o.op= .buildSlice T len parts){K:KF}(h:xu tb hg p o T len (parts.toList.map fun q=>(q.1,ev q.2)) K):∃Φ v us,K Φ v us∧aW P o ev hg Φ v us:=by
 unfold xu at h
 split at h
 ·exact h.elim
 rename_i ti bF
 have hT:=(aA T ti bF).u
 split at h
 rotate_left
 ·exact h.elim
 rename_i El hu
 rw[hu] at hT
 have bB:P.underlying T=some (.slice El):=hT
 split at h
 ·exact h.elim
 rename_i ei fk
 have hE:=aA El ei fk
 obtain⟨z,hz,dA⟩:=hE.info
 obtain⟨i,hi,h1,h2,h3⟩:=info_parts hz
 have nA:z.cells.size=ei.sz:=by have:=hE.nj;rw[←dA] at this;simpa using this
 obtain⟨Φ,cells,h,hl⟩:=xo h
 refine Hv (El:=El) h fun q E H w ao hr hh ay=> ?_
 obtain⟨q1,q2,q3⟩:=q
 obtain⟨cells',h5,h6⟩:=hl q1 E H w ao ((Array.range (len*ei.sz)).map (z.cells[· %z.cells.size]!)) hr hh (by rw[ho] at ay;exact ay) (by
  rw[Bv z.cells ei.sz nA,dA];exact Bw (mm _) len)
 have hlen:=(eR h6).1
 have cw:cells'.size=len*ei.sz:=by
  have:∀(ps:List (Nat×Value))(c c':Array Value),Instr.fill (fun i=>some (i*ei.sz,ei.sz)) c ps=some c'→c'.size=c.size:=by
   intro ps
   induction ps with
   | nil=>intro c c' h;simp[Instr.fill] at h;subst h;rfl
   | cons x ps ih=>
    intro c c' h
    simp only[Instr.fill] at h
    split at h
    ·cases h
    ·have h8:=ih _ _ h
     rw[h8]
     have:∀(l:List (Value×Nat))(c:Array Value),(l.foldl (fun cs(c,j)=>cs.setIfInBounds (x.1*ei.sz+j) c) c).size=c.size:=by
      intro l;induction l with
      | nil=>intro c;rfl
      | cons y l ih=>intro c;simp only[List.foldl_cons];rw[ih];simp
     rw[←Array.foldl_toList];exact this _ _
  rw[this _ _ _ h5];simp
 have e1:(Instr.buildSlice T len (parts.map fun(i,x)=>(i,ao x))).run P w= .ok (.slice (some ⟨w.heap.size,0,none⟩) len len) (w.alloc (.cells cells' El)):=by
  by_cases kN:len*ei.sz=0
  ·have xw:Instr.fill (fun i=>some (i*ei.sz,ei.sz)) (#[]:Array Value) (parts.toList.map fun q=>(q.1,ao q.2))=some cells':=by
     have e2:(Array.range (len*ei.sz)).map (z.cells[· %z.cells.size]!)= #[]:=by rw[kN];simp
     rw[←e2];exact h5
   simp[Instr.buildSlice,run_underlying bB,Go.sizeOf,typeInfo,hi,h2,kN,newRow,Array.range_zero']
   rw[xw]
   rfl
  ·have xw:Instr.fill (fun i=>some (i*ei.sz,ei.sz)) ((Array.range (len*ei.sz)).map (z.cells[· %z.cells.size]!)) (parts.map fun(i,x)=>(i,ao x)).toList=some cells':=by
     have e3:(parts.map fun(i,x)=>(i,ao x)).toList=parts.toList.map fun q=>(q.1,ao q.2):=by simp
     rw[e3];exact h5
   exact run_buildSlice w T El len _ cells' i z bB hi h1 (by rw[h2];omega) (by rw[h2];exact kN) (by rw[h2];exact xw)
 refine⟨cells',El,len,?_,Nat.le_refl _,?_,by rw[cw];exact Nat.le_refl _,fun k x hx=> ?_⟩
 ·unfold execOp
  simp only[ho,Sem.run_bind,e1,Result.andThen_ok,Sem.run_pure]
 ·unfold maxLen;omega
 ·obtain⟨u,hu,gm⟩:=(eR h6).2 k x hx
  exact⟨u,by simpa using hu,gm⟩
/-! make -/
def xx(tb:TypeId→Option TI)(hg:Nat→Option U)(p:Nat)(o:Oper)(T:TypeId)(x y:AV)(K:KF):Prop:=match tb T with
 | none=>False
 | some ti=>match ti.u with
  | .slice El=>match tb El with
   | none=>False
   | some ei=>match x with
    | .val (.int _ n)=>match y with
     | .val (.int _ c)=>match ei.u with
      | .int .u8=>lE hg p o n.toNat (.bytes (List.replicate n.toNat 0)) fun Φ v us=>K ((0≤n∧n≤c∧c*ei.bytes≤140737488355328∧0<ei.bytes∧ei.sz=1∧ei.zero=[.int .u8 0])∧Φ) v us
      | .int k=>lE hg p o n.toNat (.row 1 (cK k) 0 (List.replicate n.toNat 0)) fun Φ v us=>K ((0≤n∧n≤c∧c*ei.bytes≤140737488355328∧0<ei.bytes∧ei.sz=1∧ei.zero=[.int k 0])∧Φ) v us
      | _=>lE hg p o n.toNat (.row ei.sz (fun(_:Unit)=>ei.zero.map .val) () (List.replicate n.toNat ())) fun Φ v us=>K ((0≤n∧n≤c∧c*ei.bytes≤140737488355328∧0<ei.bytes)∧Φ) v us
     | _=>False
    | _=>False
  | _=>False
theorem xy{z:Array Value}{sz n i j:Nat}(hz:z.size=sz)(hi:i<n){u:Value}(hu:z.toList[j]? =some u):(madeCells z (n*sz))[i*sz+j]? =some u:=by
 have hj:j<sz:=by have:=(List.getElem?_eq_some_iff.1 hu).1;simp at this;omega
 have hle:(i+1)*sz≤n*sz:=Nat.mul_le_mul_right _ hi
 rw[Nat.add_mul,Nat.one_mul] at hle
 unfold madeCells
 have h1:i*sz+j<n*sz:=by omega
 have h2:(i*sz+j)%z.size=j:=by rw[hz,Nat.add_comm,Nat.add_mul_mod_self_right,Nat.mod_eq_of_lt hj]
 rw[Array.getElem?_map,Array.getElem?_range,if_pos h1]
 simp only[Option.map_some,h2]
 rw[getElem!_pos z j (by omega)]
 rw[←hu]
 simp[hz,hj]
theorem Hy{tb:TypeId→Option TI}(aA:cj P tb){p:Nat}{T:TypeId}{x y:Operand}(ho:o.op= .makeSlice T x y){K:KF}(h:xx tb hg p o T (ev x) (ev y) K):∃Φ v us,K Φ v us∧aW P o ev hg Φ v us:=by
 unfold xx at h
 split at h
 ·exact h.elim
 rename_i ti bF
 have hT:=(aA T ti bF).u
 split at h
 rotate_left
 ·exact h.elim
 rename_i El hu
 rw[hu] at hT
 have bB:P.underlying T=some (.slice El):=hT
 split at h
 ·exact h.elim
 rename_i ei fk
 have hE:=aA El ei fk
 obtain⟨z,hz,dA⟩:=hE.info
 obtain⟨i,hi,h1,h2,h3⟩:=info_parts hz
 have nA:z.cells.size=ei.sz:=by have:=hE.nj;rw[←dA] at this;simpa using this
 split at h
 rotate_left
 ·exact h.elim
 rename_i k1 n hx
 split at h
 rotate_left
 ·exact h.elim
 rename_i k2 c hy
 have run : 0 ≤ n → n ≤ c → c * ei.bytes ≤ 140737488355328 → 0 < ei.bytes → ∀ {E : Env} {w : World} {ao : Operand → Value}, (∀ x ∈ aQ o.op, ah E w (ev x) (ao x)) →
     (execOp ao o).run P w= .ok (.value (.slice (some ⟨w.heap.size,0,none⟩) n.toNat c.toNat)) (w.alloc (.cells (madeCells z.cells (c.toNat*ei.sz)) El))∧n.toNat≤c.toNat∧c.toNat≤maxLen:=by
  intro q1 q2 q3 q4 E w ao ay
  have gJ:=ay x (by rw[ho];simp[aQ])
  have jL:=ay y (by rw[ho];simp[aQ])
  rw[hx] at gJ;rw[hy] at jL
  have hb:c≤c*ei.bytes:=by
   have:c*1≤c*(ei.bytes:Int):=Int.mul_le_mul_of_nonneg_left (by omega) (by omega)
   omega
  have bt:=run_make (P:=P) w T El i z bB hi h1 k1 k2 n c q1 q2 (by rw[h3,Int.mul_comm];omega) (by omega)
  rw[h2] at bt
  refine⟨?_,by omega,by unfold maxLen;omega⟩
  unfold execOp
  simp only[ho,aY gJ,aY jL,Sem.run_bind,bt,Result.andThen_ok,Sem.run_pure]
 have r5:∀{α:Type}{a b:α}{m i:Nat},(List.replicate m a)[i]? =some b→i<m∧b=a:=by
  intro α a b m i h
  rw[List.getElem?_replicate] at h
  split at h
  ·rename_i ai;exact⟨ai,(Option.some.inj h).symm⟩
  ·cases h
 split at h
 ·refine qe h fun q=> ?_
  obtain⟨q1,q2,q3,q4,q5,q6⟩:=q
  refine⟨by simp[Bd.count],fun E H w ao hr hh ay=> ?_⟩
  obtain⟨g1,g2,g3⟩:=run q1 q2 q3 q4 ay
  refine⟨_,_,_,g1,g2,g3,by rw[size_madeCells,q5];exact Nat.le_refl _,fun i' ys gI=> ?_⟩
  simp only[Bd.at,Option.map_eq_some_iff] at gI
  obtain⟨b,hb,rfl⟩:=gI
  obtain⟨ai,rfl⟩:=r5 hb
  refine⟨[bv 0],rfl,by simp only[aw,ah];exact⟨_,_,rfl,rfl,rfl⟩,fun j u hu=> ?_⟩
  have:=xy (n:=c.toNat) (i:=i') (j:=j) (u:=u) nA (by omega) (by rw[dA,q6];exact hu)
  rw[q5] at this⊢
  exact this
 ·rename_i k _ hk
  refine qe h fun q=> ?_
  obtain⟨q1,q2,q3,q4,q5,q6⟩:=q
  refine⟨by simp[Bd.count],fun E H w ao hr hh ay=> ?_⟩
  obtain⟨g1,g2,g3⟩:=run q1 q2 q3 q4 ay
  refine⟨_,_,_,g1,g2,g3,by rw[size_madeCells,q5];exact Nat.le_refl _,fun i' ys gI=> ?_⟩
  simp only[Bd.at,Option.map_eq_some_iff] at gI
  obtain⟨b,hb,rfl⟩:=gI
  obtain⟨ai,rfl⟩:=r5 hb
  refine⟨[.int k 0],rfl,by simp only[cK,aw,ah];exact⟨_,_,rfl,rfl,rfl⟩,fun j u hu=> ?_⟩
  have:=xy (n:=c.toNat) (i:=i') (j:=j) (u:=u) nA (by omega) (by rw[dA,q6];exact hu)
  rw[q5] at this⊢
  exact this
 ·refine qe h fun q=> ?_
  obtain⟨q1,q2,q3,q4⟩:=q
  refine⟨by simp[Bd.count],fun E H w ao hr hh ay=> ?_⟩
  obtain⟨g1,g2,g3⟩:=run q1 q2 q3 q4 ay
  refine⟨_,_,_,g1,g2,g3,by rw[size_madeCells];exact Nat.le_refl _,fun i' ys gI=> ?_⟩
  simp only[Bd.at,Option.map_eq_some_iff] at gI
  obtain⟨b,hb,rfl⟩:=gI
  obtain⟨ai,rfl⟩:=r5 hb
  refine⟨ei.zero,hE.nj,mm _,fun j u hu=> ?_⟩
  exact xy (n:=c.toNat) (i:=i') (j:=j) (u:=u) nA (by omega) (by rw[dA];exact hu)
/-! min, max -/
theorem Bx{mx:Bool}{x y:Operand}{ts:Array TypeId}(ho:o.op= .call {callee:= .builtin (if mx then .max else .min),args:= #[x,y],argTypes:=ts}){K:KF}(h:ua mx (ev x) (ev y) K):∃Φ v us,K Φ v us∧aW P o ev hg Φ v us:=by
 unfold ua at h
 split at h
 rotate_left
 ·exact h.elim
 rename_i k a hx
 split at h
 rotate_left
 ·exact h.elim
 rename_i k' b hy
 refine⟨_,_,_,h,aW.pure fun p E H w ao hr hh ay=> ?_⟩
 have gJ:=ay x (by rw[ho];simp[aQ])
 have jL:=ay y (by rw[ho];simp[aQ])
 rw[hx] at gJ;rw[hy] at jL
 refine⟨_,?_,by rw[ah]⟩
 unfold execOp
 cases mx
 ·simp only[ho,Bool.false_eq_true,if_false,resolve,invoke,builtin,Sem.run_bind,Sem.run_pure,Result.andThen_ok,List.map_toArray,List.map_cons,List.map_nil,aY gJ,aY jL]
  have e:(if b<a then b else a)=min a b:=by simp only[Int.min_def];split<;>split<;>omega
  simp[Builtin.min_,Builtin.min2,e]
 ·simp only[ho,if_true,resolve,invoke,builtin,Sem.run_bind,Sem.run_pure,Result.andThen_ok,List.map_toArray,List.map_cons,List.map_nil,aY gJ,aY jL]
  have e:(if b>a then b else a)=max a b:=by simp only[Int.max_def];split<;>split<;>omega
  simp[Builtin.max_,Builtin.max2,e]
end
end Go.Proofs.YtpbpiehcchannaaGreatDoor

/-! Abstract values: conversions of bytes, and all operations together ('stepK'). Conditions: what 'TIok' says of the types. -/
namespace Go.Proofs.YtpbpiehcchannaaGreatDoor
set_option linter.unusedVariables false
set_option linter.unusedSimpArgs false
open Go.RowKit
section
variable {P:Program} {o:Oper} {ev:Operand→AV} {hg:Nat→Option U}
theorem Hz{E:Env}{w:World}{z:Nat}{l:List UInt8}{v:Value}(h:ah E w (.bs z l) v):BS w v l:=by
 rw[ah] at h
 obtain⟨a,n,c,rfl,rfl,h1,h2,h3,h4⟩:=h
 refine⟨a,_,c,rfl,by simp,h1,h2,h3,fun ad had i u hu=> ?_⟩
 simp only[de,List.getElem?_map,Option.map_eq_some_iff] at hu
 obtain⟨x,hx,rfl⟩:=hu
 obtain⟨b,o,rfl,_,hc⟩:=h4 i x hx
 cases had
 rw[Addr.add_lit];exact hc
theorem xA{E:Env}{w:World}{H:List U}(hr:HR E w H){r:Nat}{e:U}(he:H[r]? =some e){ver off n:Nat}{l:List UInt8}(hb:e.bd= .bytes l)(gh:ver=e.ver)(hle:off+n≤l.length){v:Value}(h:ah E w (.own r ver 1 off n) v):BS w v ((l.drop off).take n):=by
 rw[ah] at h
 obtain⟨a,c,rfl,h1,h2,h3,h4⟩:=h.2 (gh.trans (hr.ver r e he).symm)
 refine⟨a,n,c,rfl,by simp;omega,h1,h2,h3,fun ad had i u hu=> ?_⟩
 simp only[de,List.getElem?_map,Option.map_eq_some_iff,List.getElem?_take,List.getElem?_drop] at hu
 obtain⟨x,hx,rfl⟩:=hu
 split at hx
 rotate_left
 ·cases hx
 rename_i hi
 obtain⟨_,rfl,_⟩:=h4.resolve_left (by omega)
 cases had
 obtain⟨cs,k1,k2,k3⟩:=hr.cells (i:=off+i) he (ys:=[.val (bv x)]) (by rw[hb];simp[Bd.at,hx])
 rw[hb] at k3
 rw[Addr.add_lit,Nat.mul_one]
 have:cs[0]? =some (bv x):=by
  simp only[aw,ah] at k2
  obtain⟨u,vs,rfl,rfl,rfl⟩:=k2
  rfl
 have:=k3 0 _ this
 simpa [Bd.sz] using this
theorem By{E:Env}{w:World}{H:List U}(hr:HR E w H){r v0:Nat}{ls:List (List UInt8)}(he:H[r]? =some ⟨v0,.aB ls⟩){ver i off n:Nat}(hi:i<ls.length)(gh:ver=v0)(hle:off+n≤(ls.getD i []).length){v:Value}(h:ah E w (.pl r ver i off n) v):BS w v (((ls.getD i []).drop off).take n):=by
 obtain⟨a,c,rfl,h1,h2,h3,h4⟩:=hr.tT he (l:=ls.getD i []) (by simp[List.getD,hi]) hle gh h
 refine⟨a,n,c,rfl,by rw[mu,List.length_take,List.length_drop];omega,h1,h2,h3,fun ad had j u hu=> ?_⟩
 simp only[de,List.getElem?_map,Option.map_eq_some_iff] at hu
 obtain⟨x,hx,rfl⟩:=hu
 obtain⟨b,_,rfl,hc⟩:=h4 j x hx
 cases had
 rw[Addr.add_lit];exact hc
def uh(hg:Nat→Option U)(x:AV)(K:Prop→List UInt8→Prop):Prop:=match x with
 | .bs _ l=>K True l
 | .val (.slice none 0 0)=>K True []
 | .own r ver sz off n=>match hg r with
  | none=>False
  | some e=>match e.bd with
   | .bytes l=>K (ver=e.ver∧sz=1∧off+n≤l.length) ((l.drop off).take n)
   | _=>False
 | .pl r ver i off n=>match hg r with
  | none=>False
  | some e=>match e.bd with
   | .aB ls=>K (ver=e.ver∧i<ls.length∧off+n≤(ls.getD i []).length) (((ls.getD i []).drop off).take n)
   | _=>False
 | _=>False
theorem Bz{x:AV}{K:Prop→List UInt8→Prop}(h:uh hg x K):∃Ψ l,K Ψ l∧(Ψ→∀(E:Env)(H:List U)(w:World)(v:Value),HR E w H→(∀(r:Nat)(e:U),hg r=some e→H[r]? =some e)→ah E w x v→BS w v l):=by
 unfold uh at h
 split at h
 ·exact⟨_,_,h,fun _ E H w v hr hh hv=>Hz hv⟩
 ·exact⟨_,_,h,fun _ E H w v hr hh hv=>by rw[aY hv];exact BS.nil w⟩
 ·split at h
  ·exact h.elim
  rename_i e he
  split at h
  rotate_left
  ·exact h.elim
  rename_i l hb
  exact⟨_,_,h,fun p E H w v hr hh hv=>xA hr (hh _ e he) hb p.1 p.2.2 (by rw[p.2.1] at hv;exact hv)⟩
 ·split at h
  ·exact h.elim
  rename_i e he
  split at h
  rotate_left
  ·exact h.elim
  rename_i ls hb
  exact⟨_,_,h,fun p E H w v hr hh hv=>By hr (v0:=e.ver) (ls:=ls) (by rw[hh _ e he,←hb]) p.2.1 p.1 p.2.2 hv⟩
 ·exact h.elim
/-! copy -/
theorem Out.xB{E:Env}{w:World}{H:List U}{r:Nat}{e:U}(hr:HR E w H)(he:H[r]? =some e):Out E E w w H [(r,e)]:=by
 have hs:aK H [(r,e)]=H:=by
  simp only[aK,bI]
  apply List.ext_getElem?
  intro i
  rw[List.getElem?_set]
  split
  ·rename_i h;subst h
   split
   ·exact he.symm
   ·rename_i h;exact absurd (List.getElem?_eq_some_iff.1 he).1 h
  ·rfl
 have O:=Out.same hr
 exact⟨O.ext,by rw[hs];exact hr,rfl,rfl,rfl,Nat.le_refl _,O.aD,O.grow,fun _ _ _=>rfl,fun r' e' b h hl=>(O.rows r' e' b (by rw[hs] at h;exact h) hl).imp id fun⟨r0,e0,h1,h2,h3⟩=>⟨r0,e0,h1,h2,h3.imp id fun q=>by cases q⟩⟩
theorem Out.HA {E : Env} {w : World} {H : List U} (hr : HR E w H) {r : Nat} {e : U} (he : H[r]? = some e) {l m : List UInt8} (hb : e.bd = .bytes l) (bo : ¬ E.abs r) {off : Nat} (fy : off + m.length ≤ l.length) :
    Out E E w (w.setCells (E.ρ r) off (de m)) H [(r,⟨e.ver,.bytes (l.take off++(m++l.drop (off+m.length)))⟩)]∧
    (∀j,j<m.length→(w.cell? ⟨E.ρ r,off+j,none⟩).isSome=true)∧(∀j,j<m.length→w.frozen? ⟨E.ρ r,off+j,none⟩=false):=by
 have hl:e.bd.live=true:=by rw[hb];rfl
 obtain⟨cur,T,lo,hi,h1,h2,h3,h4⟩:=(hr.bM r e he ⟨hl,bo⟩).aO (by rw[hb];rfl)
 rw[hb] at h3 h4
 simp only[Bd.count,Bd.sz,Nat.mul_one] at h3 h4
 obtain⟨et,hs⟩:=pY (E.ρ r) (de m) off w
 have dK:=rO w (E.ρ r) T (lo,hi) (de m) off cur h1 (by simp;omega)
 have iM:E.set r (E.ρ r) e.ver=E:=Env.tQ E rfl (hr.ver r e he).symm bo
 have fK:cur.toList.length=cur.size:=by simp
 refine⟨?_,fun j hj=>by rw[cell_of_row w _ _ cur T (lo,hi) h1];simp;omega,fun j hj=>by simp[World.frozen?,h1];intro h;rcases h2 with h' | h'<;>omega⟩
 have:=Out.one (w':=w.setCells (E.ρ r) off (de m)) (bd':= .bytes (l.take off++(m++l.drop (off+m.length)))) (b:=E.ρ r) (v':=e.ver) hr he rfl (.inl ⟨rfl,rfl,bo⟩) (.inl ⟨rfl,hl,bo⟩) et.os et.tape et.output (by omega) (fun k hk aF=>et.block k hk aF) ?_ ?_
 ·rw[iM] at this;exact this
 ·intro pZ T2 wZ h6
  rw[h1] at h6
  cases h6
  exact⟨_,_,_,dK,by simp;omega⟩
 ·intro X
  rw[iM] at X⊢
  refine⟨fun _=>⟨_,_,_,_,dK,?_,?_,?_⟩,fun _ _ _ e=>by cases e⟩
  ·rcases h2 with h | h
   ·exact .inl h
   ·refine .inr ?_
    simp only[List.size_toArray,List.length_append,List.length_take,List.length_drop,Array.length_toList,mu]
    omega
  ·simp only[Bd.count,Bd.sz,List.size_toArray,List.length_append,List.length_take,List.length_drop,Array.length_toList,mu]
   omega
  ·intro i ys hy
   simp only[Bd.at,Option.map_eq_some_iff] at hy
   obtain⟨b,fM,rfl⟩:=hy
   refine⟨[bv b],rfl,by simp only[aw,ah];exact⟨_,_,rfl,rfl,rfl⟩,fun j u hu=> ?_⟩
   cases j with
   | succ j=>simp at hu
   | zero=>
    simp only[List.getElem?_cons_zero,Option.some.injEq] at hu
    subst hu
    simp only[Bd.sz,Nat.mul_one,Nat.add_zero,List.getElem?_toArray]
    have nm:∀{k:Nat}{x:UInt8},l[k]? =some x→cur.toList[k]? =some (bv x):=by
     intro k x hx
     obtain⟨cs,k1,k2,k3⟩:=h4 k [.val (bv x)] (by simp[Bd.at,hx])
     simp only[aw,ah] at k2
     obtain⟨u,vs,rfl,rfl,rfl⟩:=k2
     have:=k3 0 _ rfl
     simpa using this
    simp only[List.getElem?_append,List.getElem?_take,List.getElem?_drop,List.length_take,List.length_append,fK,mu] at fM⊢
    by_cases q1:i<off
    ·have a1:i<min off l.length:=by omega
     have a2:i<min off cur.size:=by omega
     have a3:i<min off cur.size+m.length:=by omega
     simp only[a1,q1,if_true] at fM
     simp only[a2,a3,q1,if_true]
     exact nm fM
    ·have a1:¬i<min off l.length:=by omega
     have a2:¬i<min off cur.size:=by omega
     have a4:min off l.length=off:=by omega
     have a5:min off cur.size=off:=by omega
     by_cases q2:i<off+m.length
     ·have a3:i<min off cur.size+m.length:=by omega
      have a6:i - min off l.length<m.length:=by omega
      simp only[a1,a6,if_true,if_false] at fM
      simp only[a2,a3,if_true,if_false]
      rw[a4] at fM;rw[a5]
      simp[de,fM]
     ·have a3:¬i<min off cur.size+m.length:=by omega
      have a6:¬i - min off l.length<m.length:=by omega
      simp only[a1,a6,if_false] at fM
      simp only[a3,if_false]
      rw[a4] at fM;rw[a5]
      have e1:off+m.length+(i - off - m.length)=i:=by omega
      have e2:off+m.length+(i - (off+m.length))=i:=by omega
      rw[e1] at fM
      rw[e2];exact nm fM
def xC(tb:TypeId→Option TI)(hg:Nat→Option U)(T:TypeId)(x y:AV)(K:KF):Prop:=match tb T with
 | none=>False
 | some ti=>match ti.u with
  | .slice El=>match tb El with
   | none=>False
   | some ei=>match x with
    | .own r ver sz off n=>match hg r with
     | none=>False
     | some e=>match e.bd with
      | .bytes l=>uh hg y fun Ψ m=>K ((ver=e.ver∧sz=1∧off+n≤l.length∧ei.sz=1)∧Ψ) (.val (.int .i64 (min n m.length:Nat))) [(r,⟨e.ver,.bytes (l.take off++(m.take (min n m.length)++l.drop (off+min n m.length)))⟩)]
      | _=>False
    | _=>False
  | _=>False
theorem HB{tb:TypeId→Option TI}(aA:cj P tb){T Ts:TypeId}{x y:Operand}(ho:o.op= .call {callee:= .builtin .copy,args:= #[x,y],argTypes:= #[T,Ts]}){K:KF}(h:xC tb hg T (ev x) (ev y) K):∃Φ v us,K Φ v us∧aW P o ev hg Φ v us:=by
 unfold xC at h
 split at h
 ·exact h.elim
 rename_i ti bF
 have hT:=(aA T ti bF).u
 split at h
 rotate_left
 ·exact h.elim
 rename_i El hu
 rw[hu] at hT
 have bB:P.underlying T=some (.slice El):=hT
 split at h
 ·exact h.elim
 rename_i ei fk
 have hE:=aA El ei fk
 obtain⟨z,hz,dA⟩:=hE.info
 obtain⟨inf,hi,i1,i2,i3⟩:=info_parts hz
 split at h
 rotate_left
 ·exact h.elim
 rename_i r ver sz off n hx
 split at h
 ·exact h.elim
 rename_i e he
 split at h
 rotate_left
 ·exact h.elim
 rename_i l hb
 obtain⟨Ψ,m,h,hm⟩:=Bz h
 refine⟨_,_,_,h,fun p E H w ao hr hh ay=> ?_⟩
 obtain⟨⟨p1,p2,p3,p4⟩,HC⟩:=p
 subst p2
 have gJ:=ay x (by rw[ho];simp[aQ])
 have jL:=ay y (by rw[ho];simp[aQ])
 rw[hx,ah] at gJ
 have iR:=hh r e he
 obtain⟨a,c,hv,h1,h2,h3,h4⟩:=gJ.2 (p1.trans (hr.ver r e iR).symm)
 obtain⟨sa,sn,sc,HD,dn,hle,_,oB,cW⟩:=hm HC E H w _ hr hh jL
 have BA:sn=m.length:=by simpa using dn.symm
 have nw:(P.info? El).map (·.size)=some 1:=by rw[hi];simp[i2,p4]
 have nB:Nat.min sn n=min n m.length:=by rw[BA];exact Nat.min_comm _ _
 have bt:∀{v':Value}{w':World},(Builtin.copy_ #[T,Ts] o.type #[.slice a n c,.slice sa sn sc]).run P w= .ok v' w'→(execOp ao o).run P w= .ok (.value v') w':=by
  intro v' w' hc
  unfold execOp
  simp only[ho,resolve,invoke,builtin,Sem.run_bind,Sem.run_pure,Result.andThen_ok,List.map_toArray,List.map_cons,List.map_nil,hv,HD,hc]
 by_cases hk:min n m.length=0
 ·have hc:=run_copy_none (P:=P) w T Ts o.type El a sa n c sn sc bB nw (by rw[nB];exact hk)
  refine⟨_,w,E,.inl (bt hc),by rw[ah,hk];rfl,?_⟩
  have e1:(⟨e.ver,.bytes (l.take off++(m.take (min n m.length)++l.drop (off+min n m.length)))⟩:U)=e:=by
   cases e with
   | mk ver bd=>
    simp only at hb
    rw[hk,hb];simp
  rw[e1]
  exact Out.xB hr iR
 ·obtain⟨bo,ha,cur,Tc,fz,hblk,cq⟩:=h4.resolve_left (by omega)
  have hlen:(m.take (min n m.length)).length=min n m.length:=by simp
  obtain⟨O,dz,eG⟩:=Out.HA (m:=m.take (min n m.length)) hr iR hb bo (off:=off) (by rw[hlen];omega)
  rw[hlen] at O dz eG
  cases sa with
  | none => have := oB rfl
            omega
  | some ad=>
   have fN:=run_copy_cells (P:=P) w T Ts o.type El (E.ρ r) off n c ad sn sc (de (m.take (min n m.length))) bB nw (by rw[mu,hlen,nB]) (fun j v hj=>by
    have:=cW ad rfl j v (by
     rw[←BB,List.getElem?_take] at hj
     split at hj
     ·exact hj
     ·cases hj)
    exact this) (by rw[mu,hlen];exact dz) (by rw[mu,hlen];exact eG) (BC _)
   rw[ha,Nat.mul_one] at bt
   rw[mu,hlen] at fN
   exact⟨_,_,E,.inl (bt fN),by rw[ah];rfl,O⟩
/-! clear -/
theorem Out.fill {E : Env} {w : World} {H : List U} (hr : HR E w H) {r : Nat} {e : U} (he : H[r]? = some e) (hc : e.bd.iu = true) (bo : ¬ E.abs r) {off n : Nat} {vs : List Value} (wS : vs.length = n * e.bd.sz) (fy : off + n ≤ e.bd.count) {bd' : Bd} (cw : bd'.sz = e.bd.sz) (cH : bd'.count = e.bd.count) (fA : bd'.nh = false)
    (b9:∀i' eT,bd'.at i'=some eT→(off≤i'∧i'<off+n∧∃us,us.length=e.bd.sz∧(∀E w,aw E w eT us)∧∀j u,us[j]? =some u→vs[(i' - off)*e.bd.sz+j]? =some u)∨((i'<off∨off+n≤i')∧e.bd.at i'=some eT)):
    Out E E w (w.setCells (E.ρ r) (off*e.bd.sz) vs) H [(r,⟨e.ver,bd'⟩)]∧
    (∀j,j<vs.length→(w.cell? ⟨E.ρ r,off*e.bd.sz+j,none⟩).isSome=true)∧(∀j,j<vs.length→w.frozen? ⟨E.ρ r,off*e.bd.sz+j,none⟩=false):=by
 have hl:=Bd.pN hc
 obtain⟨cur,T,lo,hi,h1,h2,h3,h4⟩:=(hr.bM r e he ⟨hl,bo⟩).aO hc
 obtain⟨et,hs⟩:=pY (E.ρ r) vs (off*e.bd.sz) w
 have rN:off*e.bd.sz+vs.length≤cur.size:=by
  have h5:(off+n)*e.bd.sz≤e.bd.count*e.bd.sz:=Nat.mul_le_mul_right _ fy
  rw[Nat.add_mul] at h5
  omega
 have dK:=rO w (E.ρ r) T (lo,hi) vs (off*e.bd.sz) cur h1 rN
 have iM:E.set r (E.ρ r) e.ver=E:=Env.tQ E rfl (hr.ver r e he).symm bo
 have fK:cur.toList.length=cur.size:=by simp
 refine⟨?_,fun j hj=>by rw[cell_of_row w _ _ cur T (lo,hi) h1];simp;omega,fun j hj=>by simp[World.frozen?,h1];intro h;rcases h2 with h' | h'<;>omega⟩
 have:=Out.one (w':=w.setCells (E.ρ r) (off*e.bd.sz) vs) (bd':=bd') (b:=E.ρ r) (v':=e.ver) hr he (Bd.oh fA) (.inl ⟨rfl,rfl,bo⟩) (.inl ⟨rfl,hl,bo⟩) et.os et.tape et.output (by omega) (fun k hk aF=>et.block k hk aF) ?_ ?_
 ·rw[iM] at this;exact this
 ·intro pZ T2 wZ h6
  rw[h1] at h6
  cases h6
  exact⟨_,_,_,dK,by simp;omega⟩
 ·intro X
  rw[iM] at X⊢
  refine⟨fun _=>⟨_,_,_,_,dK,?_,?_,?_⟩,fun _ _ _ e=>absurd e (Bd.og fA)⟩
  ·rcases h2 with h | h
   ·exact .inl h
   ·refine .inr ?_
    simp only[List.size_toArray,List.length_append,List.length_take,List.length_drop,Array.length_toList]
    omega
  ·rw[cw,cH]
   simp only[List.size_toArray,List.length_append,List.length_take,List.length_drop,Array.length_toList]
   omega
  ·intro i' eT gI
   rw[cw]
   rcases b9 i' eT gI with⟨BD,oC,us,u1,u2,u3⟩ | ⟨aF,rP⟩
   ·refine⟨us,u1,u2 _ _,fun k u hu=> ?_⟩
    have hk:k<e.bd.sz:=by have:=(List.getElem?_eq_some_iff.1 hu).1;omega
    have hv:=u3 k u hu
    have dp:=(List.getElem?_eq_some_iff.1 hv).1
    have iv:i'*e.bd.sz=off*e.bd.sz+(i' - off)*e.bd.sz:=by rw[←Nat.add_mul];congr 1;omega
    simp only[List.getElem?_toArray,List.getElem?_append,List.getElem?_take,List.getElem?_drop,List.length_take,List.length_append,Array.length_toList]
    have a2:¬i'*e.bd.sz+k<min (off*e.bd.sz) cur.size:=by omega
    have a3:i'*e.bd.sz+k<min (off*e.bd.sz) cur.size+vs.length:=by omega
    have a6:i'*e.bd.sz+k - min (off*e.bd.sz) cur.size=(i' - off)*e.bd.sz+k:=by omega
    simp only[a2,a3,if_true,if_false,a6]
    exact hv
   ·obtain⟨cs,h5,h6,h7⟩:=h4 i' eT rP
    refine⟨cs,h5,fw X _ _ h6,fun k u hu=> ?_⟩
    have hk:k<e.bd.sz:=by have:=(List.getElem?_eq_some_iff.1 hu).1;omega
    have nr:=Bd.mf rP
    have hb:i'*e.bd.sz+k<cur.size:=by
     have h5:(i'+1)*e.bd.sz≤e.bd.count*e.bd.sz:=Nat.mul_le_mul_right _ nr
     rw[Nat.add_mul,Nat.one_mul] at h5
     omega
    have ml:i'*e.bd.sz+k<off*e.bd.sz∨off*e.bd.sz+vs.length≤i'*e.bd.sz+k:=by
     rcases aF with h | h
     ·left
      have h5:(i'+1)*e.bd.sz≤off*e.bd.sz:=Nat.mul_le_mul_right _ h
      rw[Nat.add_mul,Nat.one_mul] at h5
      omega
     ·right
      have h5:(off+n)*e.bd.sz≤i'*e.bd.sz:=Nat.mul_le_mul_right _ h
      rw[Nat.add_mul] at h5
      omega
    have:=h7 k u hu
    simp only[List.getElem?_toArray,List.getElem?_append,List.getElem?_take,List.getElem?_drop,List.length_take,List.length_append,Array.length_toList]
    rcases ml with h | h
    ·have a2:i'*e.bd.sz+k<min (off*e.bd.sz) cur.size:=by omega
     have a3:i'*e.bd.sz+k<min (off*e.bd.sz) cur.size+vs.length:=by omega
     simp only[a2,a3,h,if_true]
     simpa using this
    ·have a3:¬i'*e.bd.sz+k<min (off*e.bd.sz) cur.size+vs.length:=by omega
     simp only[a3,if_false]
     have e2:off*e.bd.sz+vs.length+(i'*e.bd.sz+k - (min (off*e.bd.sz) cur.size+vs.length))=i'*e.bd.sz+k:=by omega
     rw[e2]
     simpa using this
theorem HE(z:Array Value)(n:Nat){q j:Nat}{u:Value}(hq:q<n)(hu:z.toList[j]? =some u):(Builtin.zeroCells z n).toList[q*z.size+j]? =some u:=by
 obtain⟨hj,hu⟩:=List.getElem?_eq_some_iff.1 hu
 simp only[Array.length_toList] at hj
 have ai:q*z.size+j<n*z.size:=by
  have:(q+1)*z.size≤n*z.size:=Nat.mul_le_mul_right _ hq
  rw[Nat.add_mul,Nat.one_mul] at this;omega
 have hm:(q*z.size+j)%z.size=j:=by
  rw[Nat.mul_comm,Nat.mul_add_mod];exact Nat.mod_eq_of_lt hj
 unfold Builtin.zeroCells
 simp only[Array.toList_map,Array.toList_range,List.getElem?_map,List.getElem?_range ai,Option.map_some,hm]
 rw[getElem!_pos z j hj]
 congr 1
theorem BE(z:Array Value)(n:Nat):(Builtin.zeroCells z n).toList.length=n*z.size:=by
 unfold Builtin.zeroCells;simp
def xD{α:Type}(f:α→List AV)(z:List Value):Option α→List AV
 | some a=>f a
 | none=>z.map .val
def xE(tb:TypeId→Option TI)(hg:Nat→Option U)(T:TypeId)(x:AV)(K:KF):Prop:=match tb T with
 | none=>False
 | some ti=>match ti.u with
  | .slice El=>match tb El with
   | none=>False
   | some ei=>match x with
    | .own r ver sz off n=>match hg r with
     | none=>False
     | some e=>match e.bd with
      | .row sz' f d l=>K (ver=e.ver∧sz=sz'∧0<n∧off+n≤l.length∧ei.sz=sz'∧(ei.zero.all fun v=>v.oneCell')=true) .any [(r,⟨e.ver,.row sz' (xD f ei.zero) none ((l.take off).map some++(List.replicate n none++(l.drop (off+n)).map some))⟩)]
      | _=>False
    | _=>False
  | _=>False
theorem HF{tb:TypeId→Option TI}(aA:cj P tb){T:TypeId}{x:Operand}(ho:o.op= .call {callee:= .builtin .clear,args:= #[x],argTypes:= #[T]}){K:KF}(h:xE tb hg T (ev x) K):∃Φ v us,K Φ v us∧aW P o ev hg Φ v us:=by
 unfold xE at h
 split at h
 ·exact h.elim
 rename_i ti bF
 have hT:=(aA T ti bF).u
 split at h
 rotate_left
 ·exact h.elim
 rename_i El hu
 rw[hu] at hT
 have bB:P.underlying T=some (.slice El):=hT
 split at h
 ·exact h.elim
 rename_i ei fk
 have hE:=aA El ei fk
 obtain⟨z,hz,dA⟩:=hE.info
 obtain⟨inf,hi,i1,i2,i3⟩:=info_parts hz
 split at h
 rotate_left
 ·exact h.elim
 rename_i r ver sz off n hx
 split at h
 ·exact h.elim
 rename_i e he
 split at h
 rotate_left
 ·exact h.elim
 rename_i sz' α f d l hb
 refine⟨_,_,_,h,fun p E H w ao hr hh ay=> ?_⟩
 obtain⟨p1,p2,p3,p4,p5,p6⟩:=p
 subst p2
 have gJ:=ay x (by rw[ho];simp[aQ])
 rw[hx,ah] at gJ
 have iR:=hh r e he
 obtain⟨a,c,hv,h1,h2,h3,h4⟩:=gJ.2 (p1.trans (hr.ver r e iR).symm)
 obtain⟨bo,ha,cur,Tc,fz,hblk,cq⟩:=h4.resolve_left (by omega)
 have qf:e.bd.sz=sz:=by rw[hb];rfl
 have nA:z.cells.size=sz:=by rw[←p5,←hE.nj,←dA];simp
 have dp:(Builtin.zeroCells z.cells n).toList.length=n*e.bd.sz:=by rw[BE,nA,qf]
 have HG:∀v∈ei.zero,v.oneCell'=true:=by simpa using p6
 obtain⟨O,dz,eG⟩:=Out.fill (bd':= .row sz (xD f ei.zero) none ((l.take off).map some++(List.replicate n none++(l.drop (off+n)).map some))) hr iR (by rw[hb];rfl) bo (off:=off) (n:=n) (vs:=(Builtin.zeroCells z.cells n).toList) dp (by rw[hb];exact p4) (by rw[hb];rfl) (by rw[hb];simp only[Bd.count,List.length_append,List.length_map,List.length_take,List.length_replicate,List.length_drop];omega) rfl (fun i' eT hy=>by
  rw[hb]
  simp only[Bd.at,Option.map_eq_some_iff] at hy
  obtain⟨b,fM,rfl⟩:=hy
  simp only[List.getElem?_append,List.length_map,List.length_take,List.getElem?_map,List.getElem?_take,List.length_replicate,List.getElem?_replicate,List.getElem?_drop] at fM
  by_cases q1:i'<off
  ·right
   have a1:i'<min off l.length:=by omega
   simp only[a1,q1,if_true,Option.map_eq_some_iff] at fM
   obtain⟨u,hu,rfl⟩:=fM
   exact⟨.inl q1,by simp only[Bd.at,hu];rfl⟩
  ·have a1:¬i'<min off l.length:=by omega
   have a4:min off l.length=off:=by omega
   by_cases q2:i'<off+n
   ·left
    have a5:i' - min off l.length<n:=by omega
    simp only[a1,a5,if_true,if_false,Option.some.injEq] at fM
    subst fM
    refine⟨by omega,q2,ei.zero,by rw[hE.nj,p5];rfl,fun E w=>mm _,fun j u hu=> ?_⟩
    show(Builtin.zeroCells z.cells n).toList[(i' - off)*sz+j]? =some u
    rw[←nA]
    exact HE z.cells n (by omega) (by rw[dA];exact hu)
   ·right
    have a5:¬i' - min off l.length<n:=by omega
    simp only[a1,a5,if_false,Option.map_eq_some_iff] at fM
    obtain⟨u,hu,rfl⟩:=fM
    have e1:off+n+(i' - min off l.length - n)=i':=by omega
    rw[e1] at hu
    exact⟨.inr (by omega),by simp only[Bd.at,hu];rfl⟩)
 have qc:∀v∈(Builtin.zeroCells z.cells n).toList,v.oneCell'=true:=by
  intro v hv
  obtain⟨k,hk,rfl⟩:=List.getElem_of_mem hv
  unfold Builtin.zeroCells
  simp only[Array.toList_map,Array.toList_range,List.getElem_map,List.getElem_range]
  rw[BE] at hk
  have kN:0<z.cells.size:=by
   rcases Nat.eq_zero_or_pos z.cells.size with h0 | h0
   ·rw[h0,Nat.mul_zero] at hk;omega
   ·exact h0
  rw[getElem!_pos z.cells _ (Nat.mod_lt _ kN)]
  exact HG _ (by rw[←dA];exact Array.getElem_mem_toList _)
 have dL:=run_storeCells_cells (P:=P) (E.ρ r) (off*e.bd.sz) (Builtin.zeroCells z.cells n).toList 0 w (by simpa using dz) (by simpa using eG) qc
 obtain⟨m,rfl⟩:∃m,n=m+1:=⟨n - 1,by omega⟩
 refine⟨.tuple #[],_,E,.inl ?_,by rw[ah];trivial,O⟩
 rw[Nat.add_zero,qf] at dL
 rw[qf]
 unfold execOp
 simp only[ho,resolve,invoke,builtin,Sem.run_bind,Sem.run_pure,Result.andThen_ok,List.map_toArray,List.map_cons,List.map_nil,hv,ha]
 simp[Builtin.clear_,run_underlying bB,zeroValue,typeInfo,hi,i1,dL]
def xF(tb:TypeId→Option TI)(hg:Nat→Option U)(p:Nat)(o:Oper)(S T:TypeId)(x:AV)(K:KF):Prop:=match tb S with
 | none=>False
 | some si=>match tb T with
  | none=>False
  | some ti=>match si.u with
   | .string=>match ti.u with
    | .slice El=>match tb El with
     | none=>False
     | some ei=>match ei.u with
      | .int .u8=>match x with
       | .val (.string s)=>lE hg p o s.size (.bytes s.data.toList) fun Φ v us=>K ((s.size≤140737488355328)∧Φ) v us
       | _=>False
      | _=>False
    | _=>False
   | .slice El=>match ti.u with
    | .string=>match tb El with
     | none=>False
     | some ei=>match ei.u with
      | .int .u8=>uh hg x fun Ψ l=>K Ψ (.val (.string (strOf l))) []
      | _=>False
    | .slice _=>match x with
     | .own r ver sz off n=>match hg r with
      | none=>False
      | some e=>match tb El with
       | none=>False
       | some ei=>match ei.u with
        | .int .u8=>K (S=T∧ver=e.ver∧0<n∧e.bd.iu=true) (.own r ver sz off n) [(r,⟨e.ver,e.bd⟩)]
        | _=>False
     | _=>False
    | _=>False
   | .int _=>wV tb S T x K
   | _=>False
theorem HH{tb:TypeId→Option TI}(aA:cj P tb){p:Nat}{S T:TypeId}{x:Operand}(ho:o.op= .convert S T x){K:KF}(h:xF tb hg p o S T (ev x) K):∃Φ v us,K Φ v us∧aW P o ev hg Φ v us:=by
 unfold xF at h
 split at h
 ·exact h.elim
 rename_i si wW
 split at h
 ·exact h.elim
 rename_i ti bF
 have hS:=(aA S si wW).u
 have hT:=(aA T ti bF).u
 split at h
 ·rename_i hu
  repeat' (split at h;rotate_left;(try exact h.elim))
  all_goals (try exact h.elim)
  rename_i _ El ly _ ei fk _ hk _ s hx
  rw[hu] at hS;rw[ly] at hT
  have nv:P.underlying S=some .string:=hS
  have bB:P.underlying T=some (.slice El):=hT
  have hE:=(aA El ei fk).u
  rw[hk] at hE
  have aR:P.underlying El=some (.int .u8):=hE
  unfold lE at h
  split at h
  ·exact h.elim
  rename_i d hd
  split at h
  ·exact h.elim
  rename_i e he
  refine⟨_,_,_,h,fun q E H w ao hr hh ay=> ?_⟩
  have cw:s.size≤maxLen:=by have:=q.1;unfold maxLen;omega
  have hv:=ay x (by rw[ho];simp[aQ])
  rw[hx] at hv
  have hv:=aY hv
  have bt:=Lib.run_convert_string_bytes (P:=P) w S T El s nv bB aR
  have dY:=Lib.bytesWorld_at_new w El s
  have ui:=Lib.bytesWorld_size w El s
  have iP:=grownCap_ge w s.size 0 El
  have xc:=grownCap_le_maxLen w s.size 0 El cw
  have cq:(Lib.bytesCells w El s).size=grownCap w s.size 0 El:=by
   have PV:s.data.size=s.size:=rfl
   simp only[Lib.bytesCells,Array.size_append,Array.size_map,Array.size_replicate];omega
  refine⟨.slice (some ⟨w.heap.size,0,none⟩) s.size (grownCap w s.size 0 El),Lib.bytesWorld w El s,E.set (p+d) w.heap.size (e.ver+1),.inl (by unfold execOp;simp only[ho,hv,Sem.run_bind,bt,Sem.run_pure,Result.andThen_ok]),?_,Out.one hr (hh _ _ he) rfl (.inr (by omega)) (.inr (Nat.le_refl _)) ?_ ?_ ?_ (by omega) (fun k hk _=>Lib.bytesWorld_at_old w El s k hk) (fun cur T3 fz mn=> ?_) (fun X=>⟨fun _=>⟨_,_,_,_,dY,.inr (Nat.le_refl _),?_,fun i ys hy=> ?_⟩,fun _ _ _ e=>by cases e⟩)⟩
  ·rw[ah,Env.jE,Env.ke]
   refine⟨Nat.le_refl _,fun _=>⟨_,_,rfl,iP,xc,(fun h=>by cases h),.inr ⟨Env.np _ _ _ _,by rw[Nat.zero_mul],_,_,_,dY,?_⟩⟩⟩
   rw[cq];simp[Bd.sz]
  ·simp[Lib.bytesWorld,World.freeze,World.alloc,World.drew,-World.alloc_eq,-World.drew_eq]
  ·simp[Lib.bytesWorld,World.freeze,World.alloc,World.drew,-World.alloc_eq,-World.drew_eq]
  ·simp[Lib.bytesWorld,World.freeze,World.alloc,World.drew,-World.alloc_eq,-World.drew_eq]
  ·have:=(Array.getElem?_eq_some_iff.1 mn).1;omega
  ·rw[cq]
   have:s.data.toList.length=s.size:=by simp
   simp only[Bd.count,Bd.sz,Nat.mul_one,this];exact iP
  ·simp only[Bd.at,Option.map_eq_some_iff] at hy
   obtain⟨b,hb,rfl⟩:=hy
   refine⟨[bv b],rfl,by simp only[aw,ah];exact⟨_,_,rfl,rfl,rfl⟩,fun j u hu=> ?_⟩
   cases j with
   | zero=>
    simp at hu;subst hu
    have ai:=(List.getElem?_eq_some_iff.1 hb).1
    simp only[Bd.sz,Nat.mul_one,Nat.add_zero,Lib.bytesCells]
    rw[Array.getElem?_append_left (by simpa using ai)]
    simp only[Array.getElem?_map]
    have:s.data[i]? =some b:=by simpa using hb
    rw[this];rfl
   | succ j=>simp at hu
 ·rename_i El hu
  rw[hu] at hS
  have nv:P.underlying S=some (.slice El):=hS
  split at h
  ·rename_i ly
   rw[ly] at hT
   have bB:P.underlying T=some .string:=hT
   split at h
   ·exact h.elim
   rename_i ei fk
   split at h
   rotate_left
   ·exact h.elim
   rename_i hk
   have hE:=(aA El ei fk).u
   rw[hk] at hE
   have aR:P.underlying El=some (.int .u8):=hE
   obtain⟨Ψ,l,h,hl⟩:=Bz h
   refine⟨_,_,_,h,aW.pure fun q E H w ao hr hh ay=> ?_⟩
   have hv:=ay x (by rw[ho];simp[aQ])
   have bt:=HI bB nv aR (hl q E H w _ hr hh hv)
   refine⟨_,?_,by rw[ah]⟩
   unfold execOp;simp only[ho,Sem.run_bind,bt,Sem.run_pure,Result.andThen_ok]
  ·split at h
   rotate_left
   ·exact h.elim
   rename_i r ver sz off n hx
   split at h
   ·exact h.elim
   rename_i e he
   split at h
   ·exact h.elim
   rename_i ei fk
   split at h
   rotate_left
   ·exact h.elim
   rename_i hk
   have hE:=(aA El ei fk).u
   rw[hk] at hE
   have aR:P.underlying El=some (.int .u8):=hE
   refine⟨_,_,_,h,fun q E H w ao hr hh ay=> ?_⟩
   obtain⟨rfl,q2,q3,q4⟩:=q
   have hH:=hh r e he
   have hv:=ay x (by rw[ho];simp[aQ])
   rw[hx,ah] at hv
   have gh:=hr.ver r e hH
   obtain⟨a,c,dn,h2,h3,h4,h5⟩:=hv.2 (by omega)
   obtain⟨bo,rfl,cur,T',fz,h6,h7⟩:=h5.resolve_left (by omega)
   have cn:bH E r e:=⟨Bd.pN q4,bo⟩
   obtain⟨pZ,T2,lo,hi,g1,g2,g3,g4⟩:=(hr.bM r e hH cn).aO q4
   rw[h6] at g1
   cases g1
   have ai:=(Array.getElem?_eq_some_iff.1 h6).1
   obtain⟨w',kl⟩:∃w':World,w'=w.freeze ⟨E.ρ r,cur.size,none⟩ 1:=⟨_,rfl⟩
   have bt:(convert S S (ao x)).run P w= .ok (ao x) w':=by
    rw[dn,kl]
    simp[convert,run_underlying nv,run_underlying aR,markStringish,World.shape?,h6]
   have iM:w'.os=w.os∧w'.tape=w.tape∧w'.output=w.output∧w'.heap.size=w.heap.size:=by rw[kl];simp[World.freeze]
   have qg:∀k,k≠E.ρ r→w'.heap[k]? =w.heap[k]?:=by
    intro k hk
    rw[kl]
    simp only[World.freeze,if_neg (show¬(1:Nat)=0 by decide)]
    rw[Array.getElem?_modify,if_neg (Ne.symm hk)]
   have jQ:∃lB bG,w'.heap[E.ρ r]? =some (.cells cur T' (lB,bG))∧(bG=lB∨cur.size≤lB):=by
    rw[kl]
    simp only[World.freeze,if_neg (show¬(1:Nat)=0 by decide)]
    rw[Array.getElem?_modify,if_pos rfl,h6]
    simp only[Option.map_some]
    by_cases hq:lo=hi
    ·subst hq
     exact⟨cur.size,cur.size+1,by simp,.inr (Nat.le_refl _)⟩
    ·refine⟨min lo cur.size,max hi (cur.size+1),by simp[hq],.inr ?_⟩
     rcases g2 with g2 | g2
     ·exact absurd g2.symm hq
     ·omega
   obtain⟨lB,bG,k1,k2⟩:=jQ
   have r6:E.set r (E.ρ r) e.ver=E:=Env.tQ E rfl gh.symm bo
   have O:=Out.one (E:=E) (w:=w) (w':=w') (r0:=r) (b:=E.ρ r) (v':=e.ver) (bd':=e.bd) hr hH (Bd.oh (Bd.rD q4)) (.inl ⟨rfl,rfl,bo⟩) (.inl ⟨rfl,cn⟩) iM.1 iM.2.1 iM.2.2.1 (by omega) (fun k _ hk=>qg k hk)
    (fun Bm T3 Bn h=>by rw[h6] at h;cases h;exact⟨_,_,_,k1,Nat.le_refl _⟩)
    (fun X=>⟨fun _=>⟨cur,T',lB,bG,k1,k2,g3,fun i ys hy=>by
     obtain⟨cs,m1,m2,m3⟩:=g4 i ys hy
     exact⟨cs,m1,fw X _ _ m2,m3⟩⟩,fun _ _ _ qq=>absurd qq (Bd.og (Bd.rD q4))⟩)
   rw[r6] at O
   refine⟨ao x,w',E,.inl (by unfold execOp;simp only[ho,Sem.run_bind,bt,Sem.run_pure,Result.andThen_ok]),?_,O⟩
   refine eF O.ext _ _ ?_
   rw[ah]
   exact⟨hv.1,fun _=>⟨_,c,dn,h2,h3,h4,.inr ⟨bo,rfl,cur,T',_,h6,h7⟩⟩⟩
  ·exact h.elim
 ·exact GS aA ho h
 ·exact h.elim

/-! a slice of an array -/
def xG(ei:TI)(len:Nat)(cells:List AV)(K:Bd→Prop→Prop):Prop:=match ei.u with
 | .int .u8=>match mj .u8 cells with
  | some ns=>K (.bytes (ns.map fun n=>UInt8.ofNat n.toNat)) (rZ ns∧ns.length=len∧ei.sz=1)
  | none=>False
 | .int k=>match mj k cells with
  | some ns=>K (.row 1 (cK k) 0 ns) (ns.length=len∧ei.sz=1)
  | none=>False
 | _=>K (.row ei.sz (fun i=>fZ (fj cells (i*ei.sz)) ei.sz) 0 (List.range len)) (cells.length=len*ei.sz)
theorem HJ {ei : TI} {len : Nat} {cells : List AV} {K : Bd → Prop → Prop} (h : xG ei len cells K) : ∃ bd Ψ, K bd Ψ ∧ (Ψ → bd.count = len ∧ bd.sz = ei.sz ∧ bd.iu = true ∧
    ∀(E:Env)(w:World)(cs:Array Value),len*ei.sz≤cs.size→(∀(i:Nat)(x:AV),cells[i]? =some x→∃u,cs[i]? =some u∧ah E w x u)→
     ∀i ys,bd.at i=some ys→∃us:List Value,us.length=bd.sz∧aw E w ys us∧∀j u,us[j]? =some u→cs[i*bd.sz+j]? =some u):=by
 unfold xG at h
 split at h
 ·split at h
  rotate_left
  ·exact h.elim
  rename_i ns js
  refine⟨_,_,h,fun q=> ?_⟩
  obtain⟨q2,q3,q4⟩:=q
  refine⟨by simpa [Bd.count] using q3,q4.symm,rfl,fun E w cs h4 h5 i ys hy=> ?_⟩
  simp only[Bd.at,List.getElem?_map,Option.map_eq_some_iff] at hy
  obtain⟨b,⟨n,hn,rfl⟩,rfl⟩:=hy
  have cW:cells[i]? =some (.val (.int .u8 n)):=by rw[pV js];simp[hn]
  obtain⟨u,hu,gm⟩:=h5 i _ cW
  have hb:=xr q2 n (List.mem_of_getElem? hn)
  have ly:u=bv (UInt8.ofNat n.toNat):=by
   rw[aY gm];unfold bv
   congr 1
   simp;omega
  refine⟨[u],rfl,by simp only[aw,ah];exact⟨_,_,rfl,ly,rfl⟩,fun j v hv=> ?_⟩
  cases j with
  | zero=>simp at hv;subst hv;simp only[Bd.sz,Nat.mul_one,Nat.add_zero];exact hu
  | succ j=>simp at hv
 ·rename_i k _ hk
  split at h
  rotate_left
  ·exact h.elim
  rename_i ns js
  refine⟨_,_,h,fun q=> ?_⟩
  obtain⟨q3,q4⟩:=q
  refine⟨by simpa [Bd.count] using q3,q4.symm,rfl,fun E w cs h4 h5 i ys hy=> ?_⟩
  simp only[Bd.at,Option.map_eq_some_iff] at hy
  obtain⟨n,hn,rfl⟩:=hy
  have cW:cells[i]? =some (.val (.int k n)):=by rw[pV js];simp[hn]
  obtain⟨u,hu,gm⟩:=h5 i _ cW
  refine⟨[u],rfl,by simp only[cK,aw];exact⟨_,_,rfl,gm,rfl⟩,fun j v hv=> ?_⟩
  cases j with
  | zero=>simp at hv;subst hv;simp only[Bd.sz,Nat.mul_one,Nat.add_zero];exact hu
  | succ j=>simp at hv
 ·refine⟨_,_,h,fun q=> ?_⟩
  refine⟨by simp[Bd.count],rfl,rfl,fun E w cs h4 h5 i ys hy=> ?_⟩
  simp only[Bd.at,Option.map_eq_some_iff] at hy
  obtain⟨i',bG,rfl⟩:=hy
  have ai:i<len:=by have:=(List.getElem?_eq_some_iff.1 bG).1;simpa using this
  rw[List.getElem?_range ai] at bG
  cases bG
  have hle:(i+1)*ei.sz≤len*ei.sz:=Nat.mul_le_mul_right _ ai
  rw[Nat.add_mul,Nat.one_mul] at hle
  rw[pQ,pP]
  refine⟨(cs.toList.drop (i*ei.sz)).take ei.sz,by simp[Bd.sz];omega,rC (by simp;omega) (fun j x u hx hu=> ?_),fun j u hu=> ?_⟩
  ·rw[List.getElem?_take] at hx hu
   split at hx
   ·rename_i hj
    rw[if_pos hj] at hu
    rw[List.getElem?_drop] at hx hu
    obtain⟨u',oA,gm⟩:=h5 _ _ hx
    have:cs[i*ei.sz+j]? =some u:=by simpa using hu
    rw[this] at oA;cases oA;exact gm
   ·cases hx
  ·rw[List.getElem?_take] at hu
   split at hu
   ·rw[List.getElem?_drop] at hu;simpa [Bd.sz] using hu
   ·cases hu
def xH(tb:TypeId→Option TI)(hg:Nat→Option U)(m:Nat)(El:TypeId)(x:AV)(lo hi:Option AV)(K:KF):Prop:=match tb El with
 | none=>False
 | some ei=>match x with
  | .ref r ver sz i j=>match hg r with
   | none=>False
   | some e=>match e.bd with
    | .obj cells=>xG ei m cells fun bd Ψ=>gW lo 0 fun l=>gW hi m fun h=>
        K (ver=e.ver∧Ψ∧i=0∧j=0∧cells.length=m*ei.sz∧m≤140737488355328∧0≤l∧l≤h∧h≤m) (.own r (e.ver+1) ei.sz l.toNat (h.toNat - l.toNat)) [(r,⟨e.ver+1,bd⟩)]
    | _=>False
  | _=>False
theorem HK {T E : TypeId} {ti : TI} {m : Nat} (hT : P.underlying T = some (.array m E)) (hE : aU P E ti) {a : Addr} {l h : Nat} {lo hi : Option Value} (hl : lz lo 0 l) (hh : lz hi m h) (h1 : l ≤ h) (h2 : h ≤ m) (w : World) :
    (Instr.sliceAt T (.pointer (some a)) lo hi none).run P w= .ok (.slice (some (if m=l then a else a.add (l*ti.sz))) (h - l) (m - l)) w:=by
 rcases hl with⟨rfl,rfl⟩ | ⟨k,rfl⟩<;>rcases hh with⟨rfl,rfl⟩ | ⟨k',rfl⟩<;>
  simp[Instr.sliceAt,Instr.sureAddr,Instr.sliceBounds,Instr.sliceBound,asIntOf,run_underlying hT,Sem.run_bind,hE.sizeOf,h1,h2]
theorem HL{tb:TypeId→Option TI}(aA:cj P tb){T:TypeId}{x:Operand}{lo hi:Option Operand}(ho:o.op= .slice T x lo hi none){m:Nat}{El:TypeId}(hT:P.underlying T=some (.array m El)){K:KF}(h:xH tb hg m El (ev x) (lo.map ev) (hi.map ev) K):∃Φ v us,K Φ v us∧aW P o ev hg Φ v us:=by
 unfold xH at h
 split at h
 ·exact h.elim
 rename_i ei fk
 have hE:=aA El ei fk
 split at h
 rotate_left
 ·exact h.elim
 rename_i r ver sz i j hx
 split at h
 ·exact h.elim
 rename_i e he
 split at h
 rotate_left
 ·exact h.elim
 rename_i cells hb
 obtain⟨bd,Ψ,h,b9⟩:=HJ h
 obtain⟨l,h,hl⟩:=iL h
 obtain⟨kK,h,jH⟩:=iL h
 refine⟨_,_,_,h,fun p E H w ao hr hh ay=> ?_⟩
 obtain⟨p1,p2,rfl,rfl,p5,p6,p7,p8,p9⟩:=p
 rw[ho] at ay
 simp only[aQ] at ay
 have hv:=ay x (by simp)
 rw[hx,ah] at hv
 have hH:=hh r e he
 have cZ:=hv.2 (p1.trans (hr.ver r e hH).symm)
 have bo:¬E.abs r:=fun q=>by have:=hr.abs r e hH q;rw[hb] at this;simp[Bd.count] at this
 have cn:bH E r e:=⟨by rw[hb];rfl,bo⟩
 obtain⟨cur,T',lB,bG,h3,h4,h5,h6⟩:=(hr.bM r e hH cn).aO (by rw[hb];rfl)
 obtain⟨b1,b2,b3,b4⟩:=b9 p2
 have fK:cells.length≤cur.size:=by rw[hb] at h5;simpa [Bd.count,Bd.sz] using h5
 obtain⟨cs,c1,c2,c3⟩:=h6 0 cells (by rw[hb];simp[Bd.at])
 rw[Nat.zero_mul] at cZ
 simp only[Nat.zero_add,Nat.zero_mul] at c3
 have bt:=HK hT hE (a:=⟨E.ρ r,0+0,none⟩) (hl E w ao (fun y hy=>ay y (by simp at hy⊢;simp[hy])) p7) (jH E w ao (fun y hy=>ay y (by simp at hy⊢;simp[hy])) (by omega)) (by omega) (by omega) w
 have hex:(execOp ao o).run P w= .ok (.value (.slice (some (if m=l.toNat then⟨E.ρ r,0+0,none⟩ else(Addr.add ⟨E.ρ r,0+0,none⟩ (l.toNat*ei.sz)))) (kK.toNat - l.toNat) (m - l.toNat))) w:=by
  unfold execOp
  simp only[ho,Sem.run_bind,Option.map_none,cZ]
  rw[bt]
  simp only[Result.andThen_ok,Sem.run_pure]
 refine⟨_,w,E.set r (E.ρ r) (e.ver+1),.inl hex,?_,Out.one hr hH (Bd.oh (Bd.rD b3)) (.inr (by omega)) (.inl ⟨rfl,cn⟩) rfl rfl rfl (Nat.le_refl _) (fun k _ _=>rfl) (fun cur T fz h=>⟨cur,T,fz,h,Nat.le_refl _⟩) (fun X=>⟨fun _=>⟨cur,T',lB,bG,h3,h4,?_,fun i ys hy=> ?_⟩,fun _ _ _ q=>absurd q (Bd.og (Bd.rD b3))⟩)⟩
 ·rw[ah,Env.jE,Env.ke]
  refine⟨Nat.le_refl _,fun _=>⟨_,_,rfl,by omega,by unfold maxLen;omega,(fun q=>by cases q),?_⟩⟩
  by_cases gH:m=l.toNat
  ·left;omega
  ·refine .inr ⟨Env.np _ _ _ _,?_,cur,T',(lB,bG),h3,?_⟩
   ·rw[if_neg gH];simp[Addr.add_lit]
   ·rw[show l.toNat+(m - l.toNat)=m by omega,←p5];exact fK
 ·rw[b1,b2,←p5];exact fK
 ·obtain⟨us,k1,k2,k3⟩:=b4 E w cur (by rw[←p5];exact fK) (fun i x hx=>by
    obtain⟨u,hu,gm⟩:=(eR c2).2 i x hx
    exact⟨u,c3 i u hu,gm⟩) i ys hy
  exact⟨us,k1,fw X _ _ k2,k3⟩
/-! a slice's room: of no slice -/
def xI(tb:TypeId→Option TI)(T:TypeId)(x:AV)(K:KF):Prop:=match tb T with
 | none=>False
 | some ti=>match ti.u with
  | .slice _=>match x with
   | .val (.slice none 0 0)=>K True (.val (.int .i64 0)) []
   | _=>False
  | _=>False
theorem HM{tb:TypeId→Option TI}(aA:cj P tb){T:TypeId}{x:Operand}(ho:o.op= .call {callee:= .builtin .cap,args:= #[x],argTypes:= #[T]}){K:KF}(h:xI tb T (ev x) K):∃Φ v us,K Φ v us∧aW P o ev hg Φ v us:=by
 unfold xI at h
 split at h
 ·exact h.elim
 rename_i ti bF
 have hT:=(aA T ti bF).u
 split at h
 rotate_left
 ·exact h.elim
 rename_i E0 hu
 rw[hu] at hT
 have bB:P.underlying T=some (.slice E0):=hT
 split at h
 rotate_left
 ·exact h.elim
 rename_i hx
 refine⟨_,_,_,h,aW.pure fun _ E H w ao hr hh ay=> ?_⟩
 rw[ho] at ay
 have hv:=ay x (by simp[aQ])
 rw[hx] at hv
 have hv:=aY hv
 refine⟨.int .i64 0,?_,by rw[ah]⟩
 unfold execOp
 simp[ho,resolve,invoke,builtin,hv,Builtin.cap_,goInt,run_underlying bB]
def xJ(n:Nat)(l:List UInt8):List AV:=(List.range n).map fun i=> .val (bv (l.getD i 0))
def xK(tb:TypeId→Option TI)(T:TypeId)(x:AV)(K:KF):Prop:=match tb T with
 | none=>False
 | some ti=>match ti.u with
  | .array n El=>match tb El with
   | none=>False
   | some ei=>match ei.u with
    | .int .u8=>match x with
     | .bs z l=>K (0<n∧n≤l.length) (.cp z (xJ n l) 0) []
     | _=>False
    | _=>False
  | _=>False
theorem HN(E:Env)(w:World)(l:List UInt8)(n:Nat):aw E w (xJ n l) ((List.range n).map fun i=>bv (l.getD i 0)):=by
 unfold xJ
 generalize List.range n=r
 induction r with
 | nil=>simp only[List.map_nil,aw]
 | cons x r ih=>simp only[List.map_cons,aw,ah];exact⟨_,_,rfl,rfl,ih⟩
theorem HO{tb:TypeId→Option TI}(aA:cj P tb){T:TypeId}{x:Operand}(ho:o.op= .sliceToArrayPointer T x){K:KF}(h:xK tb T (ev x) K):∃Φ v us,K Φ v us∧aW P o ev hg Φ v us:=by
 unfold xK at h
 repeat' (split at h;(first | exact h.elim | skip))
 all_goals (try exact h.elim)
 rename_i _ ti bF _ n El hu _ ei fk _ hE _ z l hx
 have hT:=(aA T ti bF).u
 rw[hu] at hT
 have bB:P.underlying T=some (.array n El):=hT
 refine⟨_,_,_,h,aW.pure fun p E H w ao hr hh ay=> ?_⟩
 have hv:=ay x (by rw[ho];simp[aQ])
 rw[hx,ah] at hv
 obtain⟨a,m,c,h1,h2,h3,h4,h5,h6⟩:=hv
 refine⟨.pointer a,HP ho bB h1 (by omega),?_⟩
 obtain⟨b,o',q1,q2,q3⟩:=h6 0 (l.getD 0 0) (by rw[List.getD_eq_getElem?_getD,List.getElem?_eq_getElem (by omega)];rfl)
 rw[ah]
 refine⟨b,o',_,by rw[q1];rfl,q2,HN E w l n,fun j u hu=> ?_⟩
 rw[List.getElem?_map] at hu
 obtain⟨i,hi,rfl⟩:=Option.map_eq_some_iff.1 hu
 obtain⟨hj,rfl⟩:=List.getElem?_eq_some_iff.1 hi
 simp only[List.length_range] at hj
 simp only[List.getElem_range]
 obtain⟨b',o2,g1,g2,g3⟩:=h6 j (l.getD j 0) (by rw[List.getD_eq_getElem?_getD,List.getElem?_eq_getElem (by omega)];rfl)
 rw[q1] at g1
 cases g1
 exact g3
def mv(tb:TypeId→Option TI)(p:Nat)(o:Oper)(ev:Operand→AV)(hg:Nat→Option U)(K:KF):Prop:=match o.op with
 | .move x=>K True (ev x) []
 | .assign x=>K True (ev x) []
 | .alloc T=>w7 tb hg p o T K
 | .box _ x=>w8 hg p o (ev x) K
 | .build T ps=>xp tb hg T (ps.toList.map fun q=>(q.1,ev q.2)) K
 | .buildSlice T n ps=>xu tb hg p o T n (ps.toList.map fun q=>(q.1,ev q.2)) K
 | .load T x=>wC tb hg T (ev x) K
 | .store T x y=>w5 tb hg T (ev x) (ev y) K
 | .nilCheck x=>wF hg (ev x) K
 | .binOp op T x y _=>wQ tb hg op T (ev x) (ev y) K
 | .unOp op _ x=>wT op (ev x) K
 | .convert S T x=>xF tb hg p o S T (ev x) K
 | .makeFunc fn first caps=>match fn with
  | .func f=>match first.toList with
   | []=>K True (.clo f (caps.toList.map ev)) []
   | _=>False
  | _=>False
 | .makeSlice T x y=>xx tb hg p o T (ev x) (ev y) K
 | .slice T x lo hi mx=>match mx with
  | none=>match tb T with
   | some ⟨.array m El,_,_,_,_⟩=>xH tb hg m El (ev x) (lo.map ev) (hi.map ev) K
   | _=>wL tb hg T (ev x) (lo.map ev) (hi.map ev) K
  | some m=>match hi with
   | some h=>wN tb hg T (ev x) (lo.map ev) (ev h) (ev m) K
   | none=>False
 | .fieldAddr T x k=>AY tb hg T (ev x) k K
 | .field T x k=>A8 tb T (ev x) k K
 | .indexAddr T x y=>wI tb hg T (ev x) (ev y) K
 | .index T x y=>wJ tb T (ev x) (ev y) K
 | .extract x i=>wX (ev x) i K
 | .sliceToArrayPointer T x=>xK tb T (ev x) K
 | .call c=>match c.callee with
  | .builtin b=>match b with
   | .len=>match c.args.toList with
    | [x]=>match c.argTypes.toList with
     | [T]=>wY (hg:=hg) tb T (ev x) K
     | _=>False
    | _=>False
   | .cap=>match c.args.toList with
    | [x]=>match c.argTypes.toList with
     | [T]=>xI tb T (ev x) K
     | _=>False
    | _=>False
   | .append=>match c.args.toList with
    | [s,x]=>match c.argTypes.toList with
     | [T,Tx]=>xh tb hg p o T Tx (ev s) (ev x) K
     | _=>False
    | _=>False
   | .copy=>match c.args.toList with
    | [x,y]=>match c.argTypes.toList with
     | [T,_]=>xC tb hg T (ev x) (ev y) K
     | _=>False
    | _=>False
   | .min=>match c.args.toList with
    | [x,y]=>ua false (ev x) (ev y) K
    | _=>False
   | .max=>match c.args.toList with
    | [x,y]=>ua true (ev x) (ev y) K
    | _=>False
   | .clear=>match c.args.toList with
    | [x]=>match c.argTypes.toList with
     | [T]=>xE tb hg T (ev x) K
     | _=>False
    | _=>False
   | _=>False
  | _=>False
 | _=>False
theorem uj{tb:TypeId→Option TI}(aA:cj P tb){p:Nat}{K:KF}(h:mv tb p o ev hg K):∃Φ v us,K Φ v us∧aW P o ev hg Φ v us:=by
 unfold mv at h
 split at h
 case h_1 x ho=>exact A7 (.inl ho) h
 case h_2 x ho=>exact A7 (.inr ho) h
 case h_3 T ho=>exact G6 aA ho h
 case h_4 T x ho=>exact G7 ho h
 case h_5 T ps ho=>exact Hq aA ho h
 case h_6 T n ps ho=>exact Hw aA ho h
 case h_7 T x ho=>exact GA aA ho h
 case h_8 T x y ho=>exact G4 aA ho h
 case h_9 x ho=>exact GB ho h
 case h_10 op T x y T' ho=>exact GO aA ho h
 case h_11 op T x ho=>exact GR ho h
 case h_12 S T x ho=>exact HH aA ho h
 case h_13 fn first caps ho=>
  split at h
  ·split at h
   ·rename_i f hf
    have:first= #[]:=by cases first;simp_all
    subst this
    exact GZ ho h
   ·exact h.elim
  ·exact h.elim
 case h_14 T x y ho=>exact Hy aA ho h
 case h_15 T x lo hi mx ho=>
  split at h
  ·split at h
   ·rename_i bF
    exact HL aA ho (aA _ _ bF).u h
   ·exact GI aA ho h
  ·split at h
   ·exact GK aA ho h
   ·exact h.elim
 case h_16 T x k ho=>exact GD aA ho h
 case h_17 T x k ho=>exact GY aA ho h
 case h_18 T x y ho=>exact GF aA ho h
 case h_19 T x y ho=>exact GG aA ho h
 case h_20 x i ho=>exact GX ho h
 case h_21 T x ho=>exact HO aA ho h
 case h_22 c ho=>
  obtain⟨BG,args,ts⟩:=c
  have ea:∀{α:Type}{a:Array α}{l:List α},a.toList=l→a=l.toArray:=by intro α a l h;cases a;simp_all
  simp only at h
  split at h
  rotate_left
  ·exact h.elim
  split at h
  ·split at h
   ·rename_i ha
    split at h
    ·rename_i ht
     exact G0 aA (by rw[ho,ea ha,ea ht]) h
    ·exact h.elim
   ·exact h.elim
  ·split at h
   ·rename_i ha
    split at h
    ·rename_i ht
     exact HM aA (by rw[ho,ea ha,ea ht]) h
    ·exact h.elim
   ·exact h.elim
  ·split at h
   ·rename_i ha
    split at h
    ·rename_i ht
     exact Hn aA (by rw[ho,ea ha,ea ht]) h
    ·exact h.elim
   ·exact h.elim
  ·split at h
   ·rename_i ha
    split at h
    ·rename_i ht
     exact HB aA (by rw[ho,ea ha,ea ht]) h
    ·exact h.elim
   ·exact h.elim
  ·split at h
   ·rename_i ha
    exact Bx (mx:=false) (ts:=ts) (by rw[ho,ea ha];rfl) h
   ·exact h.elim
  ·split at h
   ·rename_i ha
    exact Bx (mx:=true) (ts:=ts) (by rw[ho,ea ha];rfl) h
   ·exact h.elim
  ·split at h
   ·rename_i ha
    split at h
    ·rename_i ht
     exact HF aA (by rw[ho,ea ha,ea ht]) h
    ·exact h.elim
   ·exact h.elim
  ·exact h.elim
 all_goals exact h.elim
end
end Go.Proofs.YtpbpiehcchannaaGreatDoor

/-! Abstract values: whole functions: regions in the order of the text, code, loops. Conditions: what 'TIok' says of the types. -/
namespace Go.Proofs.YtpbpiehcchannaaGreatDoor
set_option linter.unusedVariables false
set_option linter.unusedSimpArgs false
open Go.RowKit
structure St:Type 1 where
 t:List AV
 H:List U
structure Bs where
 keep:Nat→Prop
 E0:Env
 nm:Nat→Prop
 pure:Prop
def mark(D:Nat):Deferred:={target:= .collected D,args:= #[]}
def Marks(n:Nat)(E:Env)(w:World)(ds:List Deferred):Prop:=∃Ds:List Nat,ds=Ds.map mark∧Ds.Nodup∧∀D∈Ds,n≤D∧(∃z,E.aD z D)∧w.heap[D]? =some (.deferred (some []))
theorem Marks.ext{n:Nat}{E E':Env}{w w':World}{ds:List Deferred}(X:Ext E E' w w')(h:Marks n E w ds):Marks n E' w' ds:=by
 obtain⟨Ds,h1,h2,h3⟩:=h
 refine⟨Ds,h1,h2,fun D hD=> ?_⟩
 obtain⟨h4,⟨z,h5⟩,h6⟩:=h3 D hD
 exact⟨h4,⟨z,X.aD z D h5⟩,(X.cell z D h5).trans h6⟩
theorem Marks.nil(n:Nat)(E:Env)(w:World):Marks n E w []:=⟨[],rfl,List.nodup_nil,by simp⟩
structure Rel(w0:World)(keep:Bs)(E:Env)(s:St)(a:Act)(w:World):Prop where
 len:s.t.length=a.tmps.size
 tmps:∀(i:Nat)(x:AV),s.t[i]? =some x→ah E w x (a.tmps.getD i undef)
 defers:(keep.pure→a.defers=[])∧Marks w0.heap.size E w a.defers
 hr:HR E w s.H
 fr:Fr w0 keep.keep E s.H w
 ext:Ext keep.E0 E w0 w
 aD:∀z b,E.aD z b→keep.E0.aD z b∨w0.heap.size≤b∨keep.nm b
 rows:∀(r:Nat)(e:U)(b:Nat),s.H[r]? =some e→aE E r e b→w0.heap.size≤b∨keep.nm b
def dO:Value→AV
 | .agg cs=> .agg (cs.toList.map .val)
 | .tuple cs=> .al (cs.toList.map .val)
 | v=> .val v
theorem HQ(E:Env)(w:World)(v:Value):ah E w (dO v) v:=by
 cases v<;>simp only[dO,ah]
 ·exact⟨_,by simp,mm _⟩
 ·exact⟨_,by simp,mm _⟩
def iw:AV→Prop
 | .gd φ _=>φ
 | _=>True
def dB:AV→AV
 | .gd _ x=>x
 | x=>x
theorem xL{E:Env}{w:World}{x:AV}{v:Value}(h:ah E w x v)(hg:iw x):ah E w (dB x) v:=by
 cases x<;>simp only[dB]<;>try exact h
 rw[ah] at h;exact h.1 hg
def xM(g:Nat):AV:=match pO g with
 | some cs=> .cp 0 (cs.map .val) 0
 | none=> .any
theorem HS{E:Env}{w:World}(h:Gl E w)(g:Nat):ah E w (xM g) (.pointer (some ⟨g,0,none⟩)):=by
 unfold xM
 split
 ·rename_i cs hg
  obtain⟨h1,h2⟩:=h g cs hg
  rw[ah]
  exact⟨g,0,cs,rfl,h1,mm cs,fun j u hu=>by rw[Nat.zero_add];exact h2 j u hu⟩
 ·rw[ah];trivial
def aZ(t:List AV):Operand→AV
 | .tmp i=>dB (bn t i)
 | .const v=>dO v
 | .func f=> .clo f []
 | .global g=>xM g
def dC(t:List AV):Operand→Prop
 | .tmp i=>iw (bn t i)
 | _=>True
def dH(t:List AV):List Operand→Prop
 | []=>True
 | x::xs=>dC t x∧dH t xs
def aV(t:List AV):Option Tmp→AV→List AV
 | none,_=>t
 | some d,v=>aH t d v
section
variable {P:Program} {w0:World} {keep:Bs}
theorem Rel.get{E:Env}{s:St}{a:Act}{w:World}(h:Rel w0 keep E s a w)(i:Nat):ah E w (bn s.t i) (a.tmps.getD i undef):=by
 unfold bn
 rw[bS]
 cases hi:s.t[i]? with
 | none=>simp only[ah]
 | some x=>exact h.tmps i x hi
theorem Rel.gu{E:Env}{s:St}{a:Act}{w:World}(h:Rel w0 keep E s a w){x:Operand}(hx:dC s.t x):ah E w (aZ s.t x) (a.eval x):=by
 cases x with
 | tmp i=>exact xL (h.get i) hx
 | const v=>exact HQ E w v
 | func f=>simp only[aZ,ah,Act.eval];exact⟨[],rfl,by simp[aw]⟩
 | global g=>exact HS h.hr.gl g
theorem kO{t:List AV}:∀{xs:List Operand},dH t xs→∀x∈xs,dC t x
 | y::xs,h,x,hx=>by
  rcases List.mem_cons.1 hx with rfl | hx
  ·exact h.1
  ·exact kO h.2 x hx
theorem Rel.put{E E':Env}{s:St}{a:Act}{w w':World}(h:Rel w0 keep E s a w){us:List (Nat×U)}(o:Out E E' w w' s.H us){dst:Option Tmp}{x:AV}{v:Value}(hv:ah E' w' x v):Rel w0 keep E' ⟨aV s.t dst x,aK s.H us⟩ (a.put dst v) w':=by
 refine⟨?_,?_,?_,o.hr,h.fr.out o,h.ext.trans o.ext,fun z b hz=> ?_,fun r e b hr hl=> ?_⟩
 ·cases dst<;>simp[aV,Act.put,bI,h.len]
 ·intro i y hy
  cases dst with
  | none=>exact eF o.ext y _ (h.tmps i y hy)
  | some d=>
   simp only[aV,bI] at hy
   by_cases hi:d=i
   ·subst hi
    have ai:d<s.t.length:=by have:=(List.getElem?_eq_some_iff.1 hy).1;simpa using this
    rw[List.getElem?_set_self ai] at hy
    cases hy
    have:d<a.tmps.size:=by rw[←h.len];exact ai
    rw[xB a v this];exact hv
   ·rw[List.getElem?_set_ne hi] at hy
    rw[HT a v (by simp;exact hi)]
    exact eF o.ext y _ (h.tmps i y hy)
 ·cases dst<;>exact⟨h.defers.1,h.defers.2.ext o.ext⟩
 ·rcases o.aD z b hz with h1 | h1 | ⟨r0,e0,h2,h3⟩
  ·exact h.aD z b h1
  ·have:=h.fr.size;right;left;omega
  ·rcases h.rows r0 e0 b h2 h3 with h4 | h4
   ·exact .inr (.inl h4)
   ·exact .inr (.inr h4)
 ·rcases o.rows r e b hr hl with h1 | ⟨r0,e0,h2,h3,_⟩
  ·have:=h.fr.size;left;omega
  ·exact h.rows r0 e0 b h2 h3

/-! calls -/
def r7(P:Program)(f:FuncId)(as:Array Value)(w:World)(R:Value→World→Prop):Prop:=
 ((callFunc f as).run P w= .ok (.enter f as) w∧Calls P f as w fun e w'=>∃v,e= .returned v∧R v w')∨
 ∃v w',(callFunc f as).run P w= .ok (.value v) w'∧R v w'
def xN(P:Program)(f:FuncId)(args:List AV)(hg:Nat→Option U)(post:AV→List (Nat×U)→Prop):Prop:=
 ∀(E:Env)(H:List U)(w:World)(cargs:List Value),HR E w H→(∀(r:Nat)(e:U),hg r=some e→H[r]? =some e)→aw E w args cargs→
  r7 P f cargs.toArray w fun v w'=>∃x us E',post x us∧ah E' w' x v∧Out E E' w w' H us
theorem BH {P : Program} {o : Oper} {c : Call} {f : Operand} (ho : o.op = .call c) (hc : c.callee = .value f) {a : Act} {fn : FuncId} {cs : List Value} (ix : a.eval f = .func (.func fn) #[] cs.toArray) {w : World} {R : Value → World → Prop}
    (h:r7 P fn (c.args.toList.map a.eval++cs).toArray w R) {K:Act→World→Prop} {Q:Exit→Act→World→Prop} (hK:∀v w',R v w'→K (a.put o.dst v) w'):o.wp P a w K Q:=by
 have e1:execOp a.eval o=callFunc fn (c.args.toList.map a.eval++cs).toArray:=by
  have e2:execOp a.eval o=callFunc fn (#[]++c.args.map a.eval++cs.toArray):=by
   obtain⟨dst,op,type,pos,after,guard⟩:=o
   simp only at ho
   subst ho
   obtain⟨BG,args,ts⟩:=c
   simp only at hc
   subst hc
   unfold execOp
   simp only[resolve,ix]
   rfl
  rw[e2]
  congr 1
  apply Array.ext'
  simp
 rcases h with⟨h1,h2⟩ | ⟨v,w',h1,h2⟩
 ·unfold Oper.wp
  rw[e1,h1]
  refine Calls.mono h2 fun e w'⟨v,he,hr⟩=> ?_
  subst he
  exact hK v w' hr
 ·exact r8 (by rw[e1,h1]) (hK v w' h2)
@[irreducible] def eV (P:Program) (x:AV) (args:List AV) (hg:Nat→Option U) (K:AV→List (Nat×U)→Prop):Prop:=
 ∃f caps,x= .clo f caps∧∃post,xN P f (args++caps) hg post∧∀v us,post v us→K v us
def qh(s:St)(dst:Option Tmp)(K:St→Prop)(v:AV)(us:List (Nat×U)):Prop:=K ⟨aV s.t dst v,aK s.H us⟩

def FR(r:Option Nat):Fence:={Fence.wide with round:=r}
def r9(r:Option Nat)(o:Oper):Prop:=r=none∨∀c,o.op≠.defer c
def qi(P:Program)(o:Oper)(a:Act)(w:World)(K:Act→World→Prop)(Q:Exit→Act→World→Prop):Prop:=∀(r:Option Nat)(n:Nat),r9 r o→o.wpIn (FR r) n P a w K Q
theorem BJ{r:Option Nat}{o:Oper}(h:r9 r o)(ρ:Operand→Value):o.semAt r ρ=execOp ρ o:=by
 rcases h with rfl | h
 ·rfl
 ·exact Oper.semAt_plain (FR r) ρ o h
theorem ju{P:Program}{o:Oper}{a:Act}{w:World}{K:Act→World→Prop}{Q:Exit→Act→World→Prop}(h:o.wp P a w K Q):qi P o a w K Q:=by
 intro r n ho
 refine⟨fun _ _=>trivial,?_⟩
 have e:o.semAt (FR r).round a.eval=execOp a.eval o:=BJ ho _
 rw[e]
 unfold Oper.wp at h
 generalize (execOp a.eval o).run P w=res at h⊢
 cases res with
 | ok nx w'=>
  cases nx<;>first | exact h | exact h.elim | skip
  ·exact⟨fun q=>(by cases q),callsIn_wide.2 h⟩
  ·refine⟨fun q=>(by cases q),fun c cs _=> ?_⟩
   obtain⟨v,tL,h1,h2⟩:=h c cs
   exact⟨v,tL,h1,stepsIn_wide.2 h2⟩
 | halt hh w'=>cases hh<;>first | exact h | exact h.elim
def HU(P:Program)(r:Option Nat)(n:Nat)(l:Nat)(as:Array Value)(w:World)(R:Value→World→Prop):Prop:=
 ∃fn tmps fX body,(Instr.yield l as).run P w= .ok (.round l fn tmps fX body) w∧RoundIn (FR r) n P l fn tmps fX body w fun e w'=>∃v,e= .returned v∧R v w'
def HV(P:Program)(rw:Nat)(args:List AV)(H:List U)(post:AV→List (Nat×U)→Prop):Prop:=
 ∀(E:Env)(w:World)(cargs:List Value),HR E w H→aw E w args cargs→
  ∀(r:Option Nat)(n:Nat),HU P r n (E.ρ rw) cargs.toArray w fun v w'=>∃x us E',post x us∧ah E' w' x v∧Out E E' w w' H us
@[irreducible] def qj (P:Program) (rw ver:Nat) (args:List AV) (H:List U) (K:AV→List (Nat×U)→Prop):Prop:=
 (∃e,aT H rw=some e∧e.ver=ver)∧∃post,HV P rw args H post∧∀v us,post v us→K v us
def uk(P:Program)(c:Call)(f:Operand)(s:St)(K:AV→List (Nat×U)→Prop):Prop:=match aZ s.t f with
 | .fI rw ver=>qj P rw ver (c.args.toList.map (aZ s.t)) s.H K
 | x=>eV P x (c.args.toList.map (aZ s.t)) (aT s.H) K
theorem BK{P:Program}{c:Call}{f:Operand}{s:St}{K:AV→List (Nat×U)→Prop}(h:uk P c f s K):(∃rw ver,aZ s.t f= .fI rw ver∧qj P rw ver (c.args.toList.map (aZ s.t)) s.H K)∨eV P (aZ s.t f) (c.args.toList.map (aZ s.t)) (aT s.H) K:=by
 unfold uk at h
 split at h
 ·rename_i rw ver he
  exact .inl ⟨rw,ver,he,h⟩
 ·exact .inr h

/-! one operation -/
def sb(a b:Operand)(q x y:Bool):Bool:=match a with
 | .const (.bool true)=>q||y
 | _=>match b with
  | .const (.bool false)=>q&&x
  | _=>(q&&x)||(!q&&y)
def nC(t:List AV)(c a b:Operand)(K:Prop→AV→Prop):Prop:=match aZ t c with
 | .val (.bool q)=>match aZ t b with
  | .any=>K (dC t c∧q=true∧dC t a) (aZ t a)
  | .val (.bool y)=>match aZ t a with
   | .val (.bool x)=>K (dC t c∧(q=true→dC t a)∧(q=false→dC t b)) (.val (.bool (sb a b q x y)))
   | .any=>K (dC t c∧q=false∧dC t b) (aZ t b)
   | _=>False
  | _=>False
 | _=>False
def qk(tb:TypeId→Option TI)(p:Nat)(o:Oper)(s:St)(K:St→Prop):Prop:=
 dH s.t (aQ o.op)∧mv tb p o (aZ s.t) (aT s.H) fun Φ v us=>Φ∧K ⟨aV s.t o.dst v,aK s.H us⟩
def um(tb:TypeId→Option TI)(hg:Nat→Option U)(T:TypeId)(x y:AV)(A:Prop)(K:Prop→Nat→Prop):Prop:=match y with
 | .val (.slice none 0 0)=>match tb T with
  | some ti=>match ti.u with
   | .slice _=>match x with
    | .own r ver sz off n=>gG hg r ver fun Ψ=>K Ψ n
    | .bs _ l=>K True l.length
    | .sl _ _ _ _ l=>K True l.length
    | _=>A
   | _=>A
  | none=>A
 | _=>A
def BL(n:Nat)(K:Bool→Prop):Prop:=∀b:Bool,(b=true→n=0)→K b
def xO(tb:TypeId→Option TI)(P:Program)(p:Nat)(o:Oper)(s:St)(K:St→Prop):Prop:=match o.op with
 | .call c=>match c.callee with
  | .value f=>dH s.t (aQ o.op)∧uk P c f s (qh s o.dst K)
  | _=>qk tb p o s K
 | .pick c a b=>nC s.t c a b fun Φ v=>Φ∧K ⟨aV s.t o.dst v,s.H⟩
 | .binOp op T x y _=>match op with
  | .eql=>um tb (aT s.H) T (aZ s.t x) (aZ s.t y) (qk tb p o s K) fun Φ n=>(dH s.t (aQ o.op)∧Φ)∧BL n fun b=>K ⟨aV s.t o.dst (.val (.bool b)),s.H⟩
  | .neq=>um tb (aT s.H) T (aZ s.t x) (aZ s.t y) (qk tb p o s K) fun Φ n=>(dH s.t (aQ o.op)∧Φ)∧BL n fun b=>K ⟨aV s.t o.dst (.val (.bool (!b))),s.H⟩
  | _=>qk tb p o s K
 | _=>qk tb p o s K
def kP(t:List AV):List Operand→Prop→Prop→Prop
 | [],_,B=>B
 | x::xs,A,B=>match x with
  | .tmp i=>match bn t i with
   | .gd _ y=>match y with
    | .any=>A
    | _=>kP t xs A B
   | _=>kP t xs A B
  | _=>kP t xs A B
theorem oD{t:List AV}{A B:Prop}:∀{l:List Operand},kP t l A B→A∨B
 | [],h=> .inr h
 | x::xs,h=>by
  unfold kP at h
  split at h
  ·split at h
   ·split at h
    ·exact .inl h
    ·exact oD h
   ·exact oD h
  ·exact oD h
def uo(G A:Prop)(s:St)(dst:Option Tmp)(K:St→Prop)(Φ:Prop)(v:AV)(us:List (Nat×U)):Prop:=match us with
 | []=>(G→A∧Φ)∧us=[]∧K ⟨aV s.t dst (.gd G v),s.H⟩
 | _::_=>(G→(A∧Φ)∧K ⟨aV s.t dst v,aK s.H us⟩)∧(¬G→K ⟨aV s.t dst (.gd False .any),s.H⟩)
def BM(tb:TypeId→Option TI)(P:Program)(p:Nat)(o:Oper)(s:St)(G:Prop)(K:St→Prop):Prop:=match o.op with
 | .call c=>match c.callee with
  | .value f=>(G→dH s.t (aQ o.op)∧uk P c f s (qh s o.dst K))∧(¬G→K ⟨aV s.t o.dst (.gd False .any),s.H⟩)
  | _=>kP s.t (aQ o.op) (¬G∧K ⟨aV s.t o.dst (.gd False .any),s.H⟩) (mv tb p o (aZ s.t) (aT s.H) (uo G (dH s.t (aQ o.op)) s o.dst K))
 | .pick c a b=>kP s.t [c] (¬G∧K ⟨aV s.t o.dst (.gd False .any),s.H⟩) (nC s.t c a b fun Φ v=>(G→Φ)∧K ⟨aV s.t o.dst (.gd G v),s.H⟩)
 | _=>kP s.t (aQ o.op) (¬G∧K ⟨aV s.t o.dst (.gd False .any),s.H⟩) (mv tb p o (aZ s.t) (aT s.H) (uo G (dH s.t (aQ o.op)) s o.dst K))
def ql(all:List Oper)(t:List AV)(j:Nat)(b:Bool)(K:Prop→Prop):Prop:=match oz all j with
 | none=>False
 | some oj=>match oj.dst with
  | none=>False
  | some d=>match bn t d with
   | .val (.bool q)=>K (q=b)
   | .gd φ x=>match x with
    | .val (.bool q)=>K (φ∧q=b)
    | .any=>¬φ∧K False
    | _=>False
   | _=>False
def xP(tb:TypeId→Option TI)(P:Program)(p:Nat)(all:List Oper)(o:Oper)(s:St)(K:St→Prop):Prop:=match o.guard with
 | none=>xO tb P p o s K
 | some (j,b)=>ql all s.t j b fun G=>BM tb P p o s G K
def sd(tb:TypeId→Option TI)(P:Program)(p:Nat)(all:List Oper):List Oper→(St→Prop)→St→Prop
 | [],Q,s=>Q s
 | o::rest,Q,s=>xP tb P p all o s (sd tb P p all rest Q)

theorem BN{t:List AV}{a b:Operand}{q x y:Bool}(ha:aZ t a= .val (.bool x))(hb:aZ t b= .val (.bool y)):sb a b q x y=(if q then x else y):=by
 unfold sb
 split
 ·have h:AV.val (.bool true)=AV.val (.bool x):=ha
  simp only[AV.val.injEq,Value.bool.injEq] at h
  subst h;cases q<;>simp
 ·split
  ·have h:AV.val (.bool false)=AV.val (.bool y):=hb
   simp only[AV.val.injEq,Value.bool.injEq] at h
   subst h;cases q<;>simp
  ·cases q<;>simp
theorem BO {t : List AV} {c a b : Operand} {K : Prop → AV → Prop} (h : nC t c a b K) : ∃ Φ v, K Φ v ∧ (Φ → ∀ {E : Env} {s : St} {act : Act} {w : World}, s.t = t → Rel w0 keep E s act w →
    ∃q:Bool,act.eval c= .bool q∧ah E w v (if q then act.eval a else act.eval b)):=by
 unfold nC at h
 split at h
 rotate_left
 ·exact h.elim
 rename_i q hc
 have db:∀{E:Env}{s:St}{act:Act}{w:World},s.t=t→Rel w0 keep E s act w→dC t c→act.eval c= .bool q:=by
  intro E s act w hs hR hg
  subst hs
  have:=hR.gu hg
  rw[hc] at this
  exact aY this
 split at h
 ·refine⟨_,_,h,fun p E s act w hs hR=>⟨q,db hs hR p.1,?_⟩⟩
  subst hs
  rw[p.2.1];exact hR.gu p.2.2
 ·rename_i y hb
  split at h
  ·rename_i x ha
   refine⟨_,_,h,fun p E s act w hs hR=>⟨q,db hs hR p.1,?_⟩⟩
   obtain⟨p1,p2,p3⟩:=p
   subst hs
   have key:(if q then act.eval a else act.eval b)= .bool (if q then x else y):=by
    cases q with
    | true=>have:=hR.gu (p2 rfl);rw[ha] at this;simpa using aY this
    | false=>have:=hR.gu (p3 rfl);rw[hb] at this;simpa using aY this
   rw[key,ah]
   congr 1
   exact(BN ha hb).symm
  ·refine⟨_,_,h,fun p E s act w hs hR=>⟨q,db hs hR p.1,?_⟩⟩
   subst hs
   rw[p.2.1];exact hR.gu p.2.2
  ·exact h.elim
 ·exact h.elim
theorem xQ{o:Oper}{ao:Operand→Value}{c a b:Operand}(ho:o.op= .pick c a b){q:Bool}(hq:ao c= .bool q)(w:World):(execOp ao o).run P w= .ok (.value (if q then ao a else ao b)) w:=by
 unfold execOp
 simp[ho,hq,asBool]
theorem uq{o:Oper}{a:Act}{w w':World}{cv:Value}{K:Act→World→Prop}{Q:Exit→Act→World→Prop}(h:wA P o a.eval w cv w')(hK:K (a.put o.dst cv) w'):o.wp P a w K Q:=by
 rcases h with h | ⟨h,rfl⟩
 ·exact r8 h hK
 ·unfold Oper.wp;rw[h];exact hK
theorem se {tb : TypeId → Option TI} (aA : cj P tb) {p : Nat} {o : Oper} {s : St} {K : St → Prop} (h : qk tb p o s K) {E : Env} {a : Act} {w : World} (hR : Rel w0 keep E s a w) {Q : Exit → Act → World → Prop} :
    o.wp P a w (fun a' w'=>∃s' E',Rel w0 keep E' s' a' w'∧K s') Q:=by
 obtain⟨hg,h⟩:=h
 obtain⟨Φ,v,us,⟨dF,hK⟩,hs⟩:=uj aA h
 obtain⟨cv,w',E',h1,h2,h3⟩:=hs dF E s.H w a.eval hR.hr (fun r e he=>by rw[←bS];exact he) (fun x hx=>hR.gu (kO hg x hx))
 exact uq h1 ⟨_,E',hR.put h3 h2,hK⟩
theorem BP {p : Nat} {o : Oper} {c : Call} {f : Operand} (ho : o.op = .call c) (hc : c.callee = .value f) {s : St} {K : St → Prop} (iS : dH s.t (aQ o.op)) (h : eV P (aZ s.t f) (c.args.toList.map (aZ s.t)) (aT s.H) (qh s o.dst K)) {E : Env} {a : Act} {w : World} (hR : Rel w0 keep E s a w) {Q : Exit → Act → World → Prop} :
    o.wp P a w (fun a' w'=>∃s' E',Rel w0 keep E' s' a' w'∧K s') Q:=by
 unfold eV at h
 obtain⟨fn,caps,hf,post,xR,iT⟩:=h
 have ay:∀x∈aQ o.op,ah E w (aZ s.t x) (a.eval x):=fun x hx=>hR.gu (kO iS x hx)
 rw[ho] at ay
 simp only[aQ,hc] at ay
 have ix:=ay f (by simp)
 rw[hf,ah] at ix
 obtain⟨cs,ix,cq⟩:=ix
 have cr:aw E w (c.args.toList.map (aZ s.t)) (c.args.toList.map a.eval):=rL _ (fun x hx=>ay x (by simp[hx]))
 exact BH ho hc ix (xR E s.H w _ hR.hr (fun r e he=>by rw[←bS];exact he) (lA cr cq)) fun v w'⟨x,us,E',hp,hv,ml⟩=>⟨_,E',hR.put ml hv,iT x us hp⟩
theorem BQ {o : Oper} {c : Call} {f : Operand} (ho : o.op = .call c) (hc : c.callee = .value f) {s : St} {K : St → Prop} (iS : dH s.t (aQ o.op)) {rw ver : Nat} (hf : aZ s.t f = .fI rw ver) (h : qj P rw ver (c.args.toList.map (aZ s.t)) s.H (qh s o.dst K)) {E : Env} {a : Act} {w : World} (hR : Rel w0 keep E s a w) {Q : Exit → Act → World → Prop} :
    qi P o a w (fun a' w'=>∃s' E',Rel w0 keep E' s' a' w'∧K s') Q:=by
 unfold qj at h
 obtain⟨⟨e,he,HW⟩,post,hy,iT⟩:=h
 intro r n mw
 have ay:∀x∈aQ o.op,ah E w (aZ s.t x) (a.eval x):=fun x hx=>hR.gu (kO iS x hx)
 rw[ho] at ay
 simp only[aQ,hc] at ay
 have ix:=ay f (by simp)
 rw[bS] at he
 rw[hf,ah] at ix
 have ix:=ix.2 (by rw[hR.hr.ver rw e he,HW])
 have cr:aw E w (c.args.toList.map (aZ s.t)) (c.args.toList.map a.eval):=rL _ (fun x hx=>ay x (by simp[hx]))
 obtain⟨fn,tmps,fX,body,h1,h2⟩:=hy E w _ hR.hr cr r (n - 1)
 refine⟨fun _ _=>trivial,?_⟩
 have e1:o.semAt (FR r).round a.eval=execOp a.eval o:=BJ mw _
 have e2:execOp a.eval o=Instr.yield (E.ρ rw) (c.args.toList.map a.eval).toArray:=by
  have e3:execOp a.eval o=Instr.yield (E.ρ rw) (#[]++c.args.map a.eval++ #[]):=by
   obtain⟨dst,op,type,pos,after,guard⟩:=o
   simp only at ho
   subst ho
   obtain⟨BG,args,ts⟩:=c
   simp only at hc
   subst hc
   unfold execOp
   simp only[resolve,ix]
   rfl
  rw[e3]
  congr 1
  apply Array.ext'
  simp
 rw[e1,e2,h1]
 refine⟨fun q=>(by cases q),RoundIn.mono h2 fun e w'⟨v,hv,x,us,E',hp,hx,ml⟩=> ?_⟩
 subst hv
 exact⟨_,E',hR.put ml hx,iT x us hp⟩
theorem BR {o : Oper} {c x y : Operand} (ho : o.op = .pick c x y) {Φ : Prop} {v : AV} {s : St} {K : St → Prop} {E : Env} {a : Act} {w : World} (hR : Rel w0 keep E s a w) (hv : ∃ q : Bool, a.eval c = .bool q ∧ ah E w v (if q then a.eval x else a.eval y)) (hK : K ⟨aV s.t o.dst v, s.H⟩) {Q : Exit → Act → World → Prop} :
    o.wp P a w (fun a' w'=>∃s' E',Rel w0 keep E' s' a' w'∧K s') Q:=by
 obtain⟨q,h1,h2⟩:=hv
 exact r8 (xQ ho h1 w) ⟨_,E,hR.put (Out.same hR.hr) h2,hK⟩
theorem BT {tb : TypeId → Option TI} (aA : cj P tb) {hg : Nat → Option U} {T : TypeId} {x y : AV} {A : Prop} {K : Prop → Nat → Prop} (h : um tb hg T x y A K) : A ∨ (∃ E0 Φ n, P.underlying T = some (.slice E0) ∧ K Φ n ∧
    (Φ→∀(E:Env)(H:List U)(w:World)(u v:Value),HR E w H→(∀(r:Nat)(e:U),hg r=some e→H[r]? =some e)→ah E w x u→ah E w y v→v= .slice none 0 0∧∃a m c,u= .slice a m c∧(a=none→n=0))):=by
 unfold um at h
 split at h
 rotate_left
 ·exact .inl h
 split at h
 rotate_left
 ·exact .inl h
 rename_i ti bF
 have hT:=(aA T ti bF).u
 split at h
 rotate_left
 ·exact .inl h
 rename_i E0 hu
 rw[hu] at hT
 split at h
 ·rename_i r ver sz off n
  obtain⟨Ψ,h,hc⟩:=iK h
  refine .inr ⟨E0,Ψ,n,hT,h,fun p E H w u v hr hh hx hy=>⟨aY hy,?_⟩⟩
  rw[ah] at hx
  obtain⟨a,c,rfl,h3,h4,h5,h6⟩:=hx.2 (hc p E H w hr hh)
  exact⟨a,n,c,rfl,fun q=>by have:=h5 q;omega⟩
 ·refine .inr ⟨E0,_,_,hT,h,fun p E H w u v hr hh hx hy=>⟨aY hy,?_⟩⟩
  rw[ah] at hx
  obtain⟨a,n,c,rfl,h3,h4,h5,h6,_⟩:=hx
  exact⟨a,n,c,rfl,fun q=>by have:=h6 q;omega⟩
 ·refine .inr ⟨E0,_,_,hT,h,fun p E H w u v hr hh hx hy=>⟨aY hy,?_⟩⟩
  rw[ah] at hx
  obtain⟨a,n,c,rfl,h3,h4,h5,h6,_⟩:=hx
  exact⟨a,n,c,rfl,fun q=>by have:=h6 q;omega⟩
 ·exact .inl h
theorem HX {tb : TypeId → Option TI} (aA : cj P tb) {p : Nat} {o : Oper} {s : St} {K : St → Prop} (h : xO tb P p o s K) {E : Env} {a : Act} {w : World} (hR : Rel w0 keep E s a w) {Q : Exit → Act → World → Prop} :
    qi P o a w (fun a' w'=>∃s' E',Rel w0 keep E' s' a' w'∧K s') Q:=by
 unfold xO at h
 split at h
 ·rename_i c ho
  split at h
  ·rename_i f hc
   rcases BK h.2 with⟨rw,ver,hf,hy⟩ | hk
   ·exact BQ ho hc h.1 hf hy hR
   ·exact ju (BP (p:=p) ho hc h.1 hk hR)
  ·exact ju (se aA h hR)
 ·rename_i c x y ho
  obtain⟨Φ,v,⟨dF,hK⟩,hv⟩:=BO (w0:=w0) (keep:=keep) h
  exact ju (BR (Φ:=Φ) ho hR (hv dF rfl hR) hK)
 ·rename_i op T x y T' ho
  split at h
  ·rcases BT aA h with h | ⟨E0,Φ,n,hT,⟨⟨hg,dF⟩,eI⟩,hv⟩
   ·exact ju (se aA h hR)
   ·obtain⟨h1,aa,m,c,h2,h3⟩:=hv dF E s.H w _ _ hR.hr (fun r e he=>by rw[←bS];exact he) (hR.gu (kO hg x (by rw[ho];simp[aQ]))) (hR.gu (kO hg y (by rw[ho];simp[aQ])))
    refine ju (r8 (v:= .bool aa.isNone) ?_ ⟨_,E,hR.put (Out.same hR.hr) (by rw[ah]),eI aa.isNone (fun q=>h3 (by simpa using q))⟩)
    exact wP ho (by rw[h1,h2];exact nu w) (by rw[h1,h2,Lib.run_eql_slice_nil w T E0 aa m c 0 0 hT])
  ·rcases BT aA h with h | ⟨E0,Φ,n,hT,⟨⟨hg,dF⟩,eI⟩,hv⟩
   ·exact ju (se aA h hR)
   ·obtain⟨h1,aa,m,c,h2,h3⟩:=hv dF E s.H w _ _ hR.hr (fun r e he=>by rw[←bS];exact he) (hR.gu (kO hg x (by rw[ho];simp[aQ]))) (hR.gu (kO hg y (by rw[ho];simp[aQ])))
    refine ju (r8 (v:= .bool (!aa.isNone)) ?_ ⟨_,E,hR.put (Out.same hR.hr) (by rw[ah]),eI aa.isNone (fun q=>h3 (by simpa using q))⟩)
    exact wP ho (by rw[h1,h2];exact nu w) (by rw[h1,h2,run_neq_slice_nil_any w T E0 aa m c 0 0 hT])
  ·exact ju (se aA h hR)
 ·exact ju (se aA h hR)
theorem HY {ops : Array Oper} {t : List AV} {j : Nat} {b : Bool} {K : Prop → Prop} (h : ql ops.toList t j b K) : ∃ G, K G ∧ ∀ {E : Env} {s : St} {a : Act} {w : World} {o : Oper}, s.t = t → Rel w0 keep E s a w → o.guard = some (j, b) →
    (G→Region.wanted o (yielded ops a.tmps)=true)∧(¬G→Region.wanted o (yielded ops a.tmps)=false):=by
 unfold ql at h
 split at h
 ·exact h.elim
 rename_i oj lF
 split at h
 ·exact h.elim
 rename_i d hd
 rw[qd] at lF
 have lG:(ops[j]?).bind (·.dst)=some d:=by
  have:ops[j]? =some oj:=by simpa using lF
  rw[this];exact hd
 split at h
 ·rename_i q hq
  refine⟨_,h,fun{E s a w o} hs hR ho=> ?_⟩
  have hv:=hR.get d
  rw[hs,hq] at hv
  have hy:=ur lG (aY hv)
  exact⟨fun hG=>uu ho (by rw[hy,hG]),fun hG=>nD ho (by rw[hy];simpa using hG)⟩
 ·rename_i φ x hq
  split at h
  ·rename_i q
   refine⟨_,h,fun{E s a w o} hs hR ho=> ?_⟩
   have hv:=hR.get d
   rw[hs,hq,ah] at hv
   by_cases my:φ
   ·have hy:=ur lG (aY (hv.1 my))
    exact⟨fun hG=>uu ho (by rw[hy,hG.2]),fun hG=>nD ho (by rw[hy];intro e;exact hG ⟨my,by simpa using e⟩)⟩
   ·have hy:=uv lG (hv.2 my)
    exact⟨fun hG=>absurd hG.1 my,fun hG=>nD ho (by rw[hy];simp)⟩
  ·refine⟨False,h.2,fun{E s a w o} hs hR ho=> ?_⟩
   have hv:=hR.get d
   rw[hs,hq,ah] at hv
   have hy:=uv lG (hv.2 h.1)
   exact⟨fun hG=>hG.elim,fun hG=>nD ho (by rw[hy];simp)⟩
  ·exact h.elim
 ·exact h.elim
theorem uw{E:Env}{w:World}{G:Prop}{x:AV}{v:Value}(hG:G)(h:ah E w x v):ah E w (.gd G x) v:=by rw[ah];exact⟨fun _=>h,fun n=>absurd hG n⟩
theorem km{E:Env}{w:World}{G:Prop}{x:AV}(hG:¬G):ah E w (.gd G x) undef:=by rw[ah];exact⟨fun h=>absurd h hG,fun _=>rfl⟩
theorem HZ {tb : TypeId → Option TI} (aA : cj P tb) {p : Nat} {ops : Array Oper} {o : Oper} {s : St} {K : St → Prop} (h : xP tb P p ops.toList o s K) {E : Env} {a : Act} {w : World} (hR : Rel w0 keep E s a w) {Q : Exit → Act → World → Prop} :
    (Region.wanted o (yielded ops a.tmps)=true∧qi P o a w (fun a' w'=>∃s' E',Rel w0 keep E' s' a' w'∧K s') Q)∨(Region.wanted o (yielded ops a.tmps)=false∧∃s' E',Rel w0 keep E' s' (a.put o.dst undef) w∧K s'):=by
 unfold xP at h
 split at h
 ·rename_i ho
  exact .inl ⟨by unfold Region.wanted;simp only[ho],HX aA h hR⟩
 rename_i j b ho
 obtain⟨G,h,hw⟩:=HY (w0:=w0) (keep:=keep) h
 obtain⟨gY,gp⟩:=hw rfl hR ho
 have skip:∀{x:AV},¬G→ah E w x undef→K ⟨aV s.t o.dst x,s.H⟩→∃s' E',Rel w0 keep E' s' (a.put o.dst undef) w∧K s':=by
  intro x hG hx hK
  exact⟨_,E,hR.put (Out.same hR.hr) hx,hK⟩
 have step : (mv tb p o (aZ s.t) (aT s.H) (uo G (dH s.t (aQ o.op)) s o.dst K)) →
     (Region.wanted o (yielded ops a.tmps)=true∧qi P o a w (fun a' w'=>∃s' E',Rel w0 keep E' s' a' w'∧K s') Q)∨(Region.wanted o (yielded ops a.tmps)=false∧∃s' E',Rel w0 keep E' s' (a.put o.dst undef) w∧K s'):=by
  intro h
  obtain⟨Φ,v,us,h,hs⟩:=uj aA h
  cases us with
  | nil=>
   obtain⟨dF,_,hK⟩:=h
   by_cases hG:G
   ·obtain⟨hg,dF⟩:=dF hG
    obtain⟨cv,w',E',h1,h2,h3⟩:=hs dF E s.H w a.eval hR.hr (fun r e he=>by rw[←bS];exact he) (fun x hx=>hR.gu (kO hg x hx))
    exact .inl ⟨gY hG,ju (uq h1 ⟨_,E',hR.put h3 (uw hG h2),hK⟩)⟩
   ·exact .inr ⟨gp hG,skip hG (km hG) hK⟩
  | cons u us=>
   by_cases hG:G
   ·obtain⟨⟨hg,dF⟩,hK⟩:=h.1 hG
    obtain⟨cv,w',E',h1,h2,h3⟩:=hs dF E s.H w a.eval hR.hr (fun r e he=>by rw[←bS];exact he) (fun x hx=>hR.gu (kO hg x hx))
    exact .inl ⟨gY hG,ju (uq h1 ⟨_,E',hR.put h3 h2,hK⟩)⟩
   ·exact .inr ⟨gp hG,skip hG (km (fun h=>h)) (h.2 hG)⟩
 have BU : kP s.t (aQ o.op) (¬ G ∧ K ⟨aV s.t o.dst (.gd False .any), s.H⟩) (mv tb p o (aZ s.t) (aT s.H) (uo G (dH s.t (aQ o.op)) s o.dst K)) →
     (Region.wanted o (yielded ops a.tmps)=true∧qi P o a w (fun a' w'=>∃s' E',Rel w0 keep E' s' a' w'∧K s') Q)∨(Region.wanted o (yielded ops a.tmps)=false∧∃s' E',Rel w0 keep E' s' (a.put o.dst undef) w∧K s'):=by
  intro h
  rcases oD h with⟨hG,h⟩ | h
  ·exact .inr ⟨gp hG,skip hG (km (fun h=>h)) h⟩
  ·exact step h
 unfold BM at h
 split at h
 ·rename_i c eu
  split at h
  ·rename_i f hc
   by_cases hG:G
   ·rcases BK (h.1 hG).2 with⟨rw,ver,hf,hy⟩ | hk
    ·exact .inl ⟨gY hG,BQ eu hc (h.1 hG).1 hf hy hR⟩
    ·exact .inl ⟨gY hG,ju (BP (p:=p) eu hc (h.1 hG).1 hk hR)⟩
   ·exact .inr ⟨gp hG,skip hG (km (fun h=>h)) (h.2 hG)⟩
  ·exact BU h
 ·rename_i c x y eu
  rcases oD h with⟨hG,h⟩ | h
  ·exact .inr ⟨gp hG,skip hG (km (fun h=>h)) h⟩
  obtain⟨Φ,v,⟨dF,hK⟩,hv⟩:=BO (w0:=w0) (keep:=keep) h
  by_cases hG:G
  ·refine .inl ⟨gY hG,ju (BR (Φ:=Φ) (v:= .gd G v) eu hR ?_ hK)⟩
   obtain⟨q,h1,h2⟩:=hv (dF hG) rfl hR
   exact⟨q,h1,uw hG h2⟩
  ·exact .inr ⟨gp hG,skip hG (km hG) hK⟩
 ·exact BU h
theorem xS {tb : TypeId → Option TI} (aA : cj P tb) {p : Nat} {r : Option Nat} {n : Nat} {ops : Array Oper} {Q : Exit → Act → World → Prop} : ∀ {rest : List Oper} {K : St → Prop} {s : St}, sd tb P p ops.toList rest K s → (∀ o ∈ rest, r9 r o) → ∀ {E : Env} {a : Act} {w : World}, Rel w0 keep E s a w →
    (∀s' E' a' w',Rel w0 keep E' s' a' w'→K s'→Q .normal a' w')→wpListIn (FR r) n P ops Q rest a w
 | [],K,s,h,eJ,E,a,w,hR,hQ=>hQ s E a w hR h
 | o::rest,K,s,h,eJ,E,a,w,hR,hQ=>by
  unfold sd at h
  unfold wpListIn
  rcases HZ aA (Q:=Q) h hR with⟨h1,h2⟩ | ⟨h1,s',E',h2,h3⟩
  ·rw[if_pos h1]
   exact Oper.wpIn_mono (fun a' w'⟨s',E',h3,h4⟩=>xS aA h4 (fun o ho=>eJ o (List.mem_cons_of_mem _ ho)) h3 hQ) (h2 r n (eJ o (List.mem_cons_self ..)))
  ·rw[if_neg (by rw[h1];simp)]
   exact⟨fun _ _=>trivial,xS aA h3 (fun o ho=>eJ o (List.mem_cons_of_mem _ ho)) h2 hQ⟩
end
end Go.Proofs.YtpbpiehcchannaaGreatDoor

/-! Abstract values: code, loops, functions. Conditions: what 'TIok' says of the types. -/
namespace Go.Proofs.YtpbpiehcchannaaGreatDoor
set_option linter.unusedVariables false
set_option linter.unusedSimpArgs false
open Go.RowKit
inductive Ex where
 | normal
 | exit (id:Nat)
 | ret
def Ex.to:Ex→Exit
 | .normal=> .normal
 | .exit i=> .exit i
 | .ret=> .ret
def BV(K:St→Prop)(Q:Ex→St→Prop)(e:Ex)(s:St):Prop:=match e with
 | .normal=>K s
 | .exit i=>Q (.exit i) s
 | .ret=>Q .ret s
def qm(id:Nat)(Q:Ex→St→Prop)(e:Ex)(s:St):Prop:=match e with
 | .normal=>Q .normal s
 | .exit i=>if i=id then Q .normal s else Q (.exit i) s
 | .ret=>Q .ret s
def gK(s s':St):Prop:=∀(w0:World)(keep:Bs)(E:Env)(a:Act)(w:World),Rel w0 keep E s a w→∃E',Rel w0 keep E' s' a w
def xT{σ:Type}(I:σ→St)(μ:σ→Nat)(x:σ)(Q:Ex→St→Prop)(e:Ex)(s:St):Prop:=match e with
 | .normal=>∃y,gK s (I y)∧μ y<μ x
 | .exit i=>Q (.exit i) s
 | .ret=>Q .ret s
@[irreducible] def nE (B:(Ex→St→Prop)→St→Prop) (Q:Ex→St→Prop) (s:St):Prop:=
 ∃(σ:Type)(I:σ→St)(μ:σ→Nat)(x0:σ),gK s (I x0)∧∀x,B (xT I μ x Q) (I x)
def sf(w0:World)(keep:Bs)(Q:Ex→St→Prop)(e:Exit)(a:Act)(w:World):Prop:=∃ex s E,e=ex.to∧Rel w0 keep E s a w∧Q ex s
def fC:Code→Bool
 | .skip=>true
 | .label _=>true
 | .region _ ops _=>ops.toList.all fun o=>match o.op with | .defer _=>false | _=>true
 | .seq a b=>fC a&&fC b
 | .cond _ a b=>fC a&&fC b
 | .block _ b=>fC b
 | .loop b=>fC b
 | .exit _=>true
 | .ret=>true
 | .scope b=>fC b
 | _=>false
def ec:Code→Bool
 | .seq a b=>ec a&&ec b
 | .cond _ a b=>ec a&&ec b
 | .block _ b=>ec b
 | .loop b=>ec b
 | .scope b=>ec b
 | .rangeFunc .. =>false
 | _=>true
def oE(r:Option Nat)(c:Code):Prop:=r=none∨fC c=true
theorem oE.ops{r:Option Nat}{id:Nat}{ops:Array Oper}{d:Bool}(h:oE r (.region id ops d)):∀o∈ops.toList,r9 r o:=fun o ho=>h.imp (fun q=>q) fun h=>by
 simp only[fC,List.all_eq_true] at h
 have:=h o ho
 intro c hc
 rw[hc] at this
 cases this
@[irreducible] def ux (P:Program) (id:Nat) (ops:Array Oper) (K:St→Prop) (s:St):Prop:=
 ∀(w0:World)(keep:Bs)(E:Env)(a:Act)(w:World),Rel w0 keep E s a w→∀(r:Option Nat)(n:Nat),(∀o∈ops.toList,r9 r o)→(Code.region id ops true).wpIn (FR r) n P (fun e a' w'=>e= .normal∧∃s' E',Rel w0 keep E' s' a' w'∧K s') a w
@[irreducible] def uy (P:Program) (g:Operand) (ps:Array Tmp) (fX body:Code) (Q:Ex→St→Prop) (s:St):Prop:=
 ∀(w0:World)(keep:Bs)(E:Env)(a:Act)(w:World),¬keep.pure→Rel w0 keep E s a w→∀n:Nat,(Code.rangeFunc g ps fX body).wpIn (FR none) n P (sf w0 keep Q) a w
def BW(c:AV)(φ:Prop)(A B:Prop):Prop:=match c with
 | .val (.bool q)=>φ∧(q=true→A)∧(q=false→B)
 | _=>False
def fm(tb:TypeId→Option TI)(P:Program)(p:Nat):Code→(Ex→St→Prop)→St→Prop
 | .skip,Q,s=>Q .normal s
 | .label _,Q,s=>Q .normal s
 | .region id ops draw,Q,s=>match draw with
  | false=>sd tb P p ops.toList ops.toList (Q .normal) s
  | true=>ux P id ops (Q .normal) s
 | .seq a b,Q,s=>fm tb P p a (BV (fm tb P p b Q) Q) s
 | .cond c a b,Q,s=>BW (aZ s.t c) (dC s.t c) (fm tb P p a Q s) (fm tb P p b Q s)
 | .block id b,Q,s=>fm tb P p b (qm id Q) s
 | .loop b,Q,s=>nE (fm tb P p b) Q s
 | .exit id,Q,s=>Q (.exit id) s
 | .ret,Q,s=>Q .ret s
 | .scope b,Q,s=>fm tb P p b Q s
 | .rangeFunc g ps fX body,Q,s=>uy P g ps fX body Q s
 | _,_,_=>False
section
variable {P:Program} {w0:World} {keep:Bs}
section
variable {r:Option Nat} {n:Nat} {Q:Exit→Act→World→Prop} {b:Frame} {a:Act} {k:List Item} {cs:List Frame} {w:World}
theorem qn{c:Code}:step P (lone (b.atR a (.code (.scope c)::k)) cs w)= .next (lone (b.atR a (.code c:: .inScope c::k)) cs w):=
 step_lone_go (by simp[stepG,stepG.exec,Frame.atR])
theorem H3{c:Code}:step P (lone (b.atR a (.inScope c::k)) cs w)= .next (lone (b.atR a k) cs w):=
 step_lone_go (by simp[stepG,stepG.exec,Frame.atR])
theorem H4{F:Fence}{c:Code}(h:c.wpIn F n P (Exit.noGoto Q) a w):(Code.scope c).wpIn F n P Q a w:=by
 intro b k cs cM hb hr
 have h0:(lone (b.atR a (.code (.scope c)::k)) cs w).fenced P F:=fenced_calm hb hr rfl
 obtain⟨e,lH,lI,hq,ko⟩:=h b (.inScope c::k) cs cM hb hr
 cases e with
 | normal=>exact⟨.normal,lH,lI,hq,.head h0 qn (StepsIn.trans ko (.one (fenced_calm hb hr rfl) H3))⟩
 | exit id=>exact⟨.exit id,lH,lI,hq,fun k' hk=> .head h0 qn (ko.1 k' (by simp[exitTo,hk])),fun bb hk=>let⟨k₁,h1,h2⟩:=ko.2 bb (by simp[exitTo,hk]);⟨k₁,h1,.head h0 qn h2⟩⟩
 | goto l=>exact hq.elim
 | ret=>exact⟨_,lH,lI,hq,.of_steps (.one h0 qn) ko⟩
 | panic ch=>exact⟨_,lH,lI,hq,.of_steps (.one h0 qn) ko⟩
 | outgrown=>exact⟨_,lH,lI,hq,.of_steps (.one h0 qn) ko⟩
end
theorem kQ{tb:TypeId→Option TI}(aA:cj P tb){p:Nat}{r:Option Nat}{n:Nat}:∀{c:Code}{Q:Ex→St→Prop}{s:St},fm tb P p c Q s→oE r c→(keep.pure→ec c=true)→∀{E:Env}{a:Act}{w:World},Rel w0 keep E s a w→c.wpIn (FR r) n P (sf w0 keep Q) a w
 | .skip,Q,s,h,ho,hp,E,a,w,hR=>wpIn_skip ⟨.normal,s,E,rfl,hR,h⟩
 | .label l,Q,s,h,ho,hp,E,a,w,hR=>wpIn_label ⟨.normal,s,E,rfl,hR,h⟩
 | .region id ops draw,Q,s,h,ho,hp,E,a,w,hR=>by
  simp only[fm] at h
  split at h
  ·exact wpIn_region_list (xS aA h ho.ops hR (fun s' E' a' w' h1 h2=>⟨.normal,s',E',rfl,h1,h2⟩))
  ·unfold ux at h
   exact wpIn_mono (h w0 keep E a w hR r n ho.ops) (fun e a' w'⟨he,s',E',h1,h2⟩=>⟨.normal,s',E',he,h1,h2⟩)
 | .seq x y,Q,s,h,ho,hp,E,a,w,hR=>by
  simp only[fm] at h
  have h1:oE r x:=ho.imp (fun q=>q) fun h=>by simp only[fC,Bool.and_eq_true] at h;exact h.1
  have h2:oE r y:=ho.imp (fun q=>q) fun h=>by simp only[fC,Bool.and_eq_true] at h;exact h.2
  have p1:keep.pure→ec x=true:=fun q=>by have:=hp q;simp only[ec,Bool.and_eq_true] at this;exact this.1
  have p2:keep.pure→ec y=true:=fun q=>by have:=hp q;simp only[ec,Bool.and_eq_true] at this;exact this.2
  refine wpIn_seq (wpIn_mono (kQ aA h h1 p1 hR) fun e a' w'⟨ex,s',E',he,h3,h4⟩=> ?_)
  subst he
  cases ex with
  | normal=>exact kQ aA h4 h2 p2 h3
  | exit i=>exact⟨.exit i,s',E',rfl,h3,h4⟩
  | ret=>exact⟨.ret,s',E',rfl,h3,h4⟩
 | .cond c x y,Q,s,h,ho,hp,E,a,w,hR=>by
  simp only[fm,BW] at h
  have h1:oE r x:=ho.imp (fun q=>q) fun h=>by simp only[fC,Bool.and_eq_true] at h;exact h.1
  have h2:oE r y:=ho.imp (fun q=>q) fun h=>by simp only[fC,Bool.and_eq_true] at h;exact h.2
  have p1:keep.pure→ec x=true:=fun q=>by have:=hp q;simp only[ec,Bool.and_eq_true] at this;exact this.1
  have p2:keep.pure→ec y=true:=fun q=>by have:=hp q;simp only[ec,Bool.and_eq_true] at this;exact this.2
  split at h
  ·rename_i q hc
   have hv:=hR.gu h.1
   rw[hc] at hv
   exact wpIn_cond_split (aY hv) (fun hq=>kQ aA (h.2.1 hq) h1 p1 hR) (fun hq=>kQ aA (h.2.2 hq) h2 p2 hR)
  ·exact h.elim
 | .block id b,Q,s,h,ho,hp,E,a,w,hR=>by
  simp only[fm] at h
  refine wpIn_block (wpIn_mono (kQ aA h (ho.imp (fun q=>q) fun h=>h) (fun q=>hp q) hR) fun e a' w'⟨ex,s',E',he,h1,h2⟩=> ?_)
  subst he
  cases ex with
  | normal=>exact⟨.normal,s',E',rfl,h1,h2⟩
  | exit i=>
   simp only[Ex.to,Exit.inBlock]
   simp only[qm] at h2
   split
   ·rename_i hi;rw[if_pos hi] at h2;exact⟨.normal,s',E',rfl,h1,h2⟩
   ·rename_i hi;rw[if_neg hi] at h2;exact⟨.exit i,s',E',rfl,h1,h2⟩
  | ret=>exact⟨.ret,s',E',rfl,h1,h2⟩
 | .loop b,Q,s,h,ho,hp,E,a,w,hR=>by
  simp only[fm,nE] at h
  obtain⟨σ,I,μ,x0,h0,hI⟩:=h
  obtain⟨E0,oF⟩:=h0 w0 keep E a w hR
  intro b' k cs cM hb hr
  have key : ∀ (m : Nat) (x : σ) (E : Env) (a : Act) (w : World), μ x = m → Rel w0 keep E (I x) a w →
      ∃e a' w',sf w0 keep Q e a' w'∧ArrivesIn (Machine.fenced P (FR r)) P (lone (b'.atR a (.code b:: .inLoop b::k)) cs w) b' k cs e a' w':=by
   intro m
   induction m using Nat.strongRecOn with
   | _ m ih=>
    intro x E a w hn hR
    obtain⟨e,lH,lI,⟨ex,s',E',he,h1,h2⟩,ko⟩:=kQ aA (r:=r) (n:=n) (hI x) (ho.imp (fun q=>q) fun h=>h) (fun q=>hp q) hR b' (.inLoop b::k) cs cM hb hr
    subst he
    cases ex with
    | normal=>
     obtain⟨y,hle,ai⟩:=h2
     obtain⟨E2,sh⟩:=hle w0 keep E' lH lI h1
     obtain⟨H5,H6,H7,H8,H9⟩:=ih (μ y) (hn▸ai) y E2 lH lI rfl sh
     exact⟨H5,H6,H7,H8,.of_steps (StepsIn.trans ko (.one (fenced_calm hb hr rfl) stepR_inLoop)) H9⟩
    | exit id=>exact⟨_,lH,lI,⟨.exit id,s',E',rfl,h1,h2⟩,.pass (x:= .inLoop b) rfl (fun _ _=> .inl (by simp[Ex.to])) ko⟩
    | ret=>exact⟨_,lH,lI,⟨.ret,s',E',rfl,h1,h2⟩,.pass (x:= .inLoop b) rfl (fun _ _=> .inl (by simp[Ex.to])) ko⟩
  obtain⟨e,a',w',hq,ko⟩:=key _ x0 E0 a w rfl oF
  exact⟨e,a',w',hq,.of_steps (.one (fenced_calm hb hr rfl) stepR_loop) ko⟩
 | .exit id,Q,s,h,ho,hp,E,a,w,hR=>wpIn_exit ⟨.exit id,s,E,rfl,hR,h⟩
 | .ret,Q,s,h,ho,hp,E,a,w,hR=>wpIn_ret ⟨.ret,s,E,rfl,hR,h⟩
 | .scope b,Q,s,h,ho,hp,E,a,w,hR=>by
  simp only[fm] at h
  refine H4 (wpIn_mono (kQ aA h (ho.imp (fun q=>q) fun h=>h) (fun q=>hp q) hR) fun e a' w'⟨ex,s',E',he,h1,h2⟩=> ?_)
  subst he
  cases ex<;>exact⟨_,s',E',rfl,h1,h2⟩
 | .rangeFunc g ps fX body,Q,s,h,ho,hp,E,a,w,hR=>by
  simp only[fm,uy] at h
  rcases ho with rfl | ho
  ·exact h w0 keep E a w (fun q=>by have:=hp q;cases this) hR n
  ·cases ho
 | .goto _,Q,s,h,ho,hp,E,a,w,hR=>h.elim
 | .refuse _,Q,s,h,ho,hp,E,a,w,hR=>h.elim
theorem xU{tb:TypeId→Option TI}(aA:cj P tb){p:Nat}{c:Code}{Q:Ex→St→Prop}{s:St}(h:fm tb P p c Q s)(hp:keep.pure→ec c=true){E:Env}{a:Act}{w:World}(hR:Rel w0 keep E s a w):c.wp P (sf w0 keep Q) a w:=
 (wpIn_wide (n:=0)).1 (kQ (r:=none) aA h (.inl rfl) hp hR)

/-! weakenings -/
def iy:List AV→List AV→Prop
 | [],[]=>True
 | x::xs,y::ys=>(match y with | .any=>True | y=>x=y)∧iy xs ys
 | _,_=>False
def gZ:List U→List U→Prop
 | [],[]=>True
 | x::xs,y::ys=>(match y.bd with | .dead=>x.ver=y.ver | _=>x=y)∧gZ xs ys
 | _,_=>False
theorem BX:∀{xs ys:List AV},iy xs ys→xs.length=ys.length∧∀(i:Nat) y,ys[i]? =some y→y= .any∨xs[i]? =some y
 | [],[],_=>⟨rfl,by simp⟩
 | [],_::_,h=>h.elim
 | _::_,[],h=>h.elim
 | x::xs,y::ys,h=>by
  obtain⟨h1,h2⟩:=BX h.2
  refine⟨by simp[h1],fun i z hz=> ?_⟩
  cases i with
  | zero=>
   simp at hz;subst hz
   have:=h.1
   split at this
   ·exact .inl rfl
   ·right;simp[this]
  | succ i=>simpa using h2 i z (by simpa using hz)
theorem BY:∀{xs ys:List U},gZ xs ys→∀(i:Nat)(y:U),ys[i]? =some y→∃x:U,xs[i]? =some x∧(y.bd= .dead∧x.ver=y.ver∨x=y)
 | [],[],_=>by simp
 | [],_::_,h=>h.elim
 | _::_,[],h=>h.elim
 | x::xs,y::ys,h=>by
  intro i z hz
  cases i with
  | zero=>
   simp at hz;subst hz
   refine⟨x,rfl,?_⟩
   have:=h.1
   split at this
   ·rename_i hd;exact .inl ⟨hd,this⟩
   ·exact .inr this
  | succ i=>simpa using BY h.2 i z (by simpa using hz)
theorem BZ:∀{xs ys:List U},gZ xs ys→xs.length=ys.length
 | [],[],_=>rfl
 | [],_::_,h=>h.elim
 | _::_,[],h=>h.elim
 | x::xs,y::ys,h=>by simp[BZ h.2]
theorem oG{s s':St}(ht:iy s.t s'.t)(hH:gZ s.H s'.H):gK s s':=by
 intro w0 keep E a w hR
 obtain⟨h1,h2⟩:=BX ht
 have hg:=BY hH
 have hl:∀(r:Nat)(e:U),s'.H[r]? =some e→bH E r e→∃e0:U,s.H[r]? =some e0∧e0=e:=by
  intro r e he hl
  obtain⟨x,hx,h3 | h3⟩:=hg r e he
  ·have:=hl.1;rw[h3.1] at this;cases this
  ·exact⟨x,hx,h3⟩
 have hb:∀(r:Nat)(e:U)(b:Nat),s'.H[r]? =some e→aE E r e b→s.H[r]? =some e:=by
  intro r e b he hl
  obtain⟨x,hx,h3 | h3⟩:=hg r e he
  ·obtain⟨v,bd⟩:=e
   simp only at h3
   rw[h3.1] at hl
   exact absurd hl aE.dead
  ·rw[hx,h3]
 refine⟨E,⟨by rw[←h1];exact hR.len,fun i x hx=> ?_,hR.defers,⟨?_,?_,?_,?_,hR.hr.cJ,?_,?_,hR.hr.gl,?_⟩,⟨hR.fr.os,hR.fr.tape,hR.fr.output,hR.fr.size,hR.fr.block,hR.fr.grow,?_⟩,hR.ext,hR.aD,?_⟩⟩
 ·rcases h2 i x hx with rfl | h
  ·simp only[ah]
  ·exact hR.tmps i x h
 ·intro r e he
  obtain⟨x,hx,h3 | h3⟩:=hg r e he
  ·rw[hR.hr.ver r x hx];exact h3.2
  ·subst h3;exact hR.hr.ver r x hx
 ·intro r e he fD
  obtain⟨x,hx,rfl⟩:=hl r e he fD
  exact hR.hr.bM r x hx fD
 ·intro r e he ha
  obtain⟨x,hx,h3 | h3⟩:=hg r e he
  ·rw[h3.1];rfl
  ·subst h3;exact hR.hr.abs r x hx ha
 ·intro r r' e e' b he jM fD jv
  exact hR.hr.inj r r' e e' b (hb r e b he fD) (hb r' e' b jM jv) fD jv
 ·intro r e b he fD
  exact hR.hr.dj r e b (hb r e b he fD) fD
 ·intro r hr
  exact hR.hr.top r (by rw[BZ hH];exact hr)
 ·intro r v ls he
  obtain⟨x,hx,h3 | h3⟩:=hg r _ he
  ·cases h3.1
  ·exact hR.hr.aB r v ls (by rw[hx,h3])
 ·intro r e b he fD
  exact hR.fr.rows r e b (hb r e b he fD) fD
 ·intro r e b he fD
  exact hR.rows r e b (hb r e b he fD) fD

/-! functions -/
def kp(w:World):Env:={ρ:=fun _=>w.heap.size,ver:=fun _=>0,aD:=fun z b=>z=0∧b<w.heap.size,abs:=fun _=>False,pl:=fun _ _=>none}
def cx:Nat→List U
 | 0=>[]
 | n+1=>⟨0,.dead⟩::cx n
def cN:Nat→List AV
 | 0=>[]
 | n+1=> .val undef::cN n
theorem qo:∀{n r:Nat}{e:U},(cx n)[r]? =some e→e=⟨0,.dead⟩
 | 0,_,_,h=>by simp[cx] at h
 | n+1,0,_,h=>by simp[cx] at h;exact h.symm
 | n+1,r+1,_,h=>qo (n:=n) (r:=r) (by simpa [cx] using h)
theorem B3:∀n,(cN n).length=n
 | 0=>rfl
 | n+1=>by simp[cN,B3 n]
theorem B4:∀{n r:Nat}{x:AV},(cN n)[r]? =some x→x= .val undef
 | 0,_,_,h=>by simp[cN] at h
 | n+1,0,_,h=>by simp[cN] at h;exact h.symm
 | n+1,r+1,_,h=>B4 (n:=n) (r:=r) (by simpa [cN] using h)
def Spec(P:Program)(f:FuncId)(args:List AV)(H0:List U)(post:AV→List U→Prop):Prop:=
 ∀(w:World)(E:Env)(cargs:List Value),HR E w H0→aw E w args cargs→
  Calls P f cargs.toArray w fun e w'=>∃v x H E',e= .returned v∧post x H∧ah E' w' x v∧HR E' w' H∧Ext E E' w w'∧(∀z b,E'.aD z b→E.aD z b∨w.heap.size≤b∨Hb E H0 b)∧H0.length≤H.length∧(∀(r:Nat)(e:U)(b:Nat),H[r]? =some e→aE E' r e b→w.heap.size≤b∨∃(r0:Nat)(e0:U),H0[r0]? =some e0∧aE E r0 e0 b)∧Fr w (fun k=>∀(r:Nat)(e:U),H0[r]? =some e→¬aE E r e k) E' H w'
def oH(tb:TypeId→Option TI)(t:List AV)(H:List U):List ResultVar→(Prop→List AV→Prop)→Prop
 | [],K=>K True []
 | .tmp i::rs,K=>oH tb t H rs fun Φ l=>K (iw (bn t i)∧Φ) (dB (bn t i)::l)
 | .cell i T::rs,K=>match tb T with
  | none=>False
  | some ti=>match dB (bn t i) with
   | .ref r ver sz k j=>match aT H r with
    | none=>False
    | some e=>tU e.bd sz k fun Φ cells=>nq ti (fj cells j) fun Ψ v=>oH tb t H rs fun Ia l=>K (iw (bn t i)∧ver=e.ver∧Φ∧Ψ∧Ia) (v::l)
   | _=>False
def jw:List AV→AV
 | [x]=>x
 | l=> .al l
def sj(tb:TypeId→Option TI)(rs:List ResultVar)(post:AV→List U→Prop)(e:Ex)(s:St):Prop:=match e with
 | .exit _=>False
 | _=>oH tb s.t s.H rs fun Φ l=>Φ∧post (jw l) s.H
def oI(tmps:Array Value):ResultVar→Sem Value
 | .tmp t=>pure (tmps.getD t undef)
 | .cell a t=>do loadVar t (←asAddr (tmps.getD a undef))
theorem xV {tb : TypeId → Option TI} (aA : cj P tb) {t : List AV} {H : List U} : ∀ {rs : List ResultVar} {K : Prop → List AV → Prop}, oH tb t H rs K →
    ∃Φ l,K Φ l∧(Φ→∀{E:Env}{s:St}{a:Act}{w:World},s.t=t→s.H=H→Rel w0 keep E s a w→
     ∃vs:List Value,aw E w l vs∧(rs.mapM (m:=Sem) (oI a.tmps)).run P w= .ok vs w)
 | [],K,h=>⟨_,_,h,fun _{E s a w} _ _ _=>⟨[],by simp[aw],by simp⟩⟩
 | .tmp i::rs,K,h=>by
  simp only[oH] at h
  obtain⟨Φ,l,h,hl⟩:=xV aA h
  refine⟨_,_,h,fun p{E s a w} hs hH hR=> ?_⟩
  obtain⟨vs,h1,h2⟩:=hl p.2 hs hH hR
  refine⟨a.tmps.getD i undef::vs,?_,?_⟩
  ·simp only[aw]
   exact⟨_,_,rfl,xL (by have:=hR.get i;rw[hs] at this;exact this) p.1,h1⟩
  ·have e1:(oI a.tmps (.tmp i)).run P w= .ok (a.tmps.getD i undef) w:=rfl
   simp only[List.mapM_cons,Sem.run_bind,e1,h2,Sem.run_pure,Result.andThen_ok]
 | .cell i T::rs,K,h=>by
  simp only[oH] at h
  split at h
  ·exact h.elim
  rename_i ti bF
  split at h
  rotate_left
  ·exact h.elim
  rename_i r ver sz k j hx
  split at h
  ·exact h.elim
  rename_i e he
  obtain⟨PW,ys,h,hb⟩:=AU h
  obtain⟨Ψ,v,h,fD⟩:=pT (aA T ti bF) h
  obtain⟨Φ,l,h,hl⟩:=xV aA h
  refine⟨_,_,h,fun p{E s a w} hs hH hR=> ?_⟩
  obtain⟨p1,p2,p3,p4,p5⟩:=p
  obtain⟨vs,h1,h2⟩:=hl p5 hs hH hR
  have hv:=hR.get i
  rw[hs] at hv
  have hv:=xL hv p1
  rw[hx,ah] at hv
  rw[bS,←hH] at he
  have cZ:=hv.2 (p2.trans (hR.hr.ver r e he).symm)
  obtain⟨eo,jF⟩:=hb p3
  obtain⟨cs,h5,h6,h7⟩:=hR.hr.cells he eo
  obtain⟨cv,eG,_,dz⟩:=fD p4 E w cs h6
  have dz:=dz (E.ρ r) (k*e.bd.sz) h7
  refine⟨cv::vs,?_,?_⟩
  ·simp only[aw]
   exact⟨_,_,rfl,eG,h1⟩
  ·rw[jF] at cZ
   have e1:(oI a.tmps (.cell i T)).run P w= .ok cv w:=by
    simp only[oI,cZ,asAddr,Sem.run_bind,Sem.run_pure,Result.andThen_ok,dz]
   simp only[List.mapM_cons,Sem.run_bind,e1,h2,Sem.run_pure,Result.andThen_ok]
theorem uz {tb : TypeId → Option TI} (aA : cj P tb) {fn : Func} {rs : List ResultVar} (kR : fn.results = rs.toArray) {post : AV → List U → Prop} {e : Ex} {s : St} (h : sj tb rs post e s) {E : Env} {a : Act} {w : World} (hR : Rel w0 keep E s a w) :
    (e= .normal∨e= .ret)∧∃v x,(results fn a.tmps).run P w= .ok v w∧ah E w x v∧post x s.H:=by
 have key:oH tb s.t s.H rs (fun Φ l=>Φ∧post (jw l) s.H)→∃v x,(results fn a.tmps).run P w= .ok v w∧ah E w x v∧post x s.H:=by
  intro h
  obtain⟨Φ,l,⟨dF,hp⟩,hl⟩:=xV (w0:=w0) (keep:=keep) aA h
  obtain⟨vs,h1,h2⟩:=hl dF rfl rfl hR
  have hlen:=(eR h1).1
  have h3:(results fn a.tmps).run P w= .ok (if h:vs.toArray.size=1 then vs.toArray[0] else .tuple vs.toArray) w:=by
   have e0:results fn a.tmps=(do
       let vs←fn.results.mapM (oI a.tmps)
       pure (if h:vs.size=1 then vs[0] else .tuple vs)):=rfl
   rw[e0,kR,Sem.run_bind,List.mapM_toArray]
   have e2:(Functor.map List.toArray (rs.mapM (m:=Sem) (oI a.tmps)))=((rs.mapM (m:=Sem) (oI a.tmps)) >>= fun l=>pure (List.toArray l)):=rfl
   rw[e2,Sem.run_bind,h2]
   rfl
  refine⟨_,jw l,h3,?_,hp⟩
  cases l with
  | nil=>
   have:vs=[]:=List.eq_nil_of_length_eq_zero (by simpa using hlen.symm)
   subst this
   simp only[jw,ah]
   exact⟨[],rfl,by simp[aw]⟩
  | cons x l=>
   cases l with
   | nil=>
    rw[aw] at h1
    obtain⟨u,us,rfl,h4,h5⟩:=h1
    rw[aw] at h5
    subst h5
    simpa [jw] using h4
   | cons y l=>
    have:¬vs.toArray.size=1:=by simp at hlen⊢;omega
    rw[dif_neg this]
    simp only[jw,ah]
    exact⟨vs,rfl,h1⟩
 cases e with
 | normal=>exact⟨.inl rfl,key h⟩
 | ret=>exact⟨.inr rfl,key h⟩
 | exit i=>exact h.elim
def nF(E:Env)(H0:List U)(pu:Prop):Bs:=⟨fun k=>∀(r:Nat)(e:U),H0[r]? =some e→¬aE E r e k,E,fun b=>∃(r:Nat)(e0:U),H0[r]? =some e0∧aE E r e0 b,pu⟩
theorem uA {fn : Func} {n : Nat} (hn : fn.ntmps = n) {args : List AV} {H0 : List U} {w : World} {E : Env} {cargs : List Value} (hr : HR E w H0) (cr : aw E w args cargs) (m : Nat) (pu : Prop) :
    Rel w (nF E H0 pu) E ⟨args++cN (n - args.length),H0++cx m⟩ {tmps:=cargs.toArray++Array.replicate (fn.ntmps - cargs.toArray.size) undef,defers:=[]} w:=by
 have hE:=hr.top
 have hlen:=(eR cr).1
 refine Rel.mk ?_ ?_ ⟨fun _=>rfl,Marks.nil _ _ _⟩ ?_ ?_ (Ext.refl _ _) (fun _ _ h=> .inl h) ?_
 ·simp[B3,hn,hlen]
 ·intro i x hx
  rw[List.getElem?_append] at hx
  split at hx
  ·rename_i hi
   obtain⟨v,hv,r5⟩:=(eR cr).2 i x hx
   have ai:=(List.getElem?_eq_some_iff.1 hv).1
   have:(cargs.toArray++Array.replicate (fn.ntmps - cargs.toArray.size) undef).getD i undef=v:=by
    simp only[Array.getD_eq_getD_getElem?]
    rw[Array.getElem?_append_left (by simpa using ai)]
    simp[hv]
   rw[this];exact r5
  ·rename_i hi
   have qp:=B4 hx
   subst qp
   rw[ah]
   simp only[Array.getD_eq_getD_getElem?]
   rw[Array.getElem?_append_right (by simp;omega)]
   rw[Array.getElem?_replicate]
   split<;>rfl
 ·have aL:∀(r:Nat)(e:U),(H0++cx m)[r]? =some e→H0[r]? =some e∨(H0.length≤r∧e=⟨0,.dead⟩):=by
    intro r e he
    rw[List.getElem?_append] at he
    split at he
    ·exact .inl he
    ·exact .inr ⟨by omega,qo he⟩
  refine⟨?_,?_,?_,?_,hr.cJ,?_,?_,hr.gl,?_⟩
  ·intro r e he
   rcases aL r e he with h1 | ⟨h1,rfl⟩
   ·exact hr.ver r e h1
   ·exact(hE r h1).1
  ·intro r e he hl
   rcases aL r e he with h1 | ⟨h1,rfl⟩
   ·exact hr.bM r e h1 hl
   ·cases hl.1
  ·intro r e he ha
   rcases aL r e he with h1 | ⟨h1,rfl⟩
   ·exact hr.abs r e h1 ha
   ·rfl
  ·intro r r' e e' b he jM hl bu
   rcases aL r e he with h1 | ⟨h1,rfl⟩
   ·rcases aL r' e' jM with h2 | ⟨h2,rfl⟩
    ·exact hr.inj r r' e e' b h1 h2 hl bu
    ·exact absurd bu aE.dead
   ·exact absurd hl aE.dead
  ·intro r e b he hl
   rcases aL r e he with h1 | ⟨h1,rfl⟩
   ·exact hr.dj r e b h1 hl
   ·exact absurd hl aE.dead
  ·intro r bb
   rw[List.length_append] at bb
   exact hr.top r (by omega)
  ·intro r v ls he
   rcases aL r _ he with h1 | ⟨h1,h2⟩
   ·exact hr.aB r v ls h1
   ·cases h2
 ·refine⟨rfl,rfl,rfl,Nat.le_refl _,fun _ _ _=>rfl,fun _ cur T fz h=>⟨cur,T,fz,h,Nat.le_refl _⟩,fun r e b he hl _ hk=> ?_⟩
  rw[List.getElem?_append] at he
  split at he
  ·exact hk r e he hl
  ·have:=qo he;subst this;exact absurd hl aE.dead
 ·intro r e b he hl
  rw[List.getElem?_append] at he
  split at he
  ·exact .inr ⟨r,e,he,hl⟩
  ·have:=qo he;subst this;exact absurd hl aE.dead
theorem aq {tb : TypeId → Option TI} (aA : cj P tb) {f : FuncId} {fn : Func} {c : Code} {n : Nat} {rs : List ResultVar} (hf : P.funcs[f]? = some fn) (hb : fn.body = some c) (hn : fn.ntmps = n) (kR : fn.results = rs.toArray)
    {args:List AV} {H0:List U} {post:AV→List U→Prop} (h:fm tb P H0.length c (sj tb rs fun x H=>H0.length≤H.length∧post x H) ⟨args++cN (n - args.length),H0++cx n⟩) (sk:ec c=true:=by kernel_rfl):Spec P f args H0 post:=by
 intro w E cargs hr cr
 refine calls_of_wp hf hb (wp_mono (xU (keep:=nF E H0 True) aA h (fun _=>sk) (uA hn hr cr n True)) ?_)
 rintro e a w' ⟨ex,s,E',rfl,hR,hQ⟩
 obtain⟨hex,v,x,h1,h2,h3⟩:=uz aA kR hQ hR
 have hx:Ext E E' w w':=hR.ext
 rcases hex with rfl | rfl
 ·exact⟨hR.defers.1 trivial,v,h1,v,x,s.H,E',rfl,h3.2,h2,hR.hr,hx,hR.aD,h3.1,hR.rows,hR.fr⟩
 ·exact⟨hR.defers.1 trivial,v,h1,v,x,s.H,E',rfl,h3.2,h2,hR.hr,hx,hR.aD,h3.1,hR.rows,hR.fr⟩
end
end Go.Proofs.YtpbpiehcchannaaGreatDoor

/-! Abstract values: a call by what its function comes to. Conditions: the premises of each. -/
namespace Go.Proofs.YtpbpiehcchannaaGreatDoor
set_option linter.unusedVariables false
set_option linter.unusedSimpArgs false
open Go.RowKit
structure Ren where
 σ:Nat→Nat
 δ:Nat→Nat
mutual
def bx(R:Ren):AV→AV
 | .any=> .any
 | .val v=> .val v
 | .agg l=> .agg (b7 R l)
 | .al l=> .al (b7 R l)
 | .bs z l=> .bs z l
 | .sl z sz f d l=> .sl z sz (fun a=>b7 R (f a)) d l
 | .own r ver sz off n=> .own (R.σ r) (ver+R.δ r) sz off n
 | .ref r ver sz i j=> .ref (R.σ r) (ver+R.δ r) sz i j
 | .cp z cells j=> .cp z (b7 R cells) j
 | .clo f caps=> .clo f (b7 R caps)
 | .fI r ver=> .fI (R.σ r) (ver+R.δ r)
 | .pl r ver i off n=> .pl (R.σ r) (ver+R.δ r) i off n
 | .gU r ver i k=> .gU (R.σ r) (ver+R.δ r) i k
 | .gd φ x=> .gd φ (bx R x)
def b7(R:Ren):List AV→List AV
 | []=>[]
 | x::xs=>bx R x::b7 R xs
end
mutual
def cL(D:Nat→Prop):AV→Prop
 | .any=>True
 | .val v=>True
 | .agg l=>cT D l
 | .al l=>cT D l
 | .bs z l=>True
 | .sl z sz f d l=>∀a,cT D (f a)
 | .own r ver sz off n=>D r
 | .ref r ver sz i j=>D r
 | .cp z cells j=>cT D cells
 | .clo f caps=>cT D caps
 | .fI r ver=>D r
 | .pl r ver i off n=>D r
 | .gU r ver i k=>D r
 | .gd φ x=>cL D x
def cT(D:Nat→Prop):List AV→Prop
 | []=>True
 | x::xs=>cL D x∧cT D xs
end
structure oJ(D:Nat→Prop)(R:Ren)(E Ec:Env):Prop where
 ver:∀r,D r→Ec.ver (R.σ r)=E.ver r+R.δ r
 di:∀r,D r→Ec.ρ (R.σ r)=E.ρ r
 abs:∀r,D r→(Ec.abs (R.σ r)↔E.abs r)
 aD:∀z b,Ec.aD z b↔E.aD z b
 pl:∀r,D r→Ec.pl (R.σ r)=E.pl r
theorem B5(R:Ren):∀(xs:List AV),(b7 R xs).length=xs.length
 | []=>by simp[b7]
 | x::xs=>by simp[b7,B5 R xs]
mutual
theorem xW{D:Nat→Prop}{R:Ren}{E Ec:Env}{w:World}(C:oJ D R E Ec):∀(x:AV)(v:Value),cL D x→(ah E w x v↔ah Ec w (bx R x) v)
 | .any,v,_=>by simp only[bx,ah]
 | .val u,v,_=>by simp only[bx,ah]
 | .agg l,v,h=>by
  simp only[bx,ah]
  rw[cL] at h
  exact exists_congr fun cs=>and_congr_right fun _=>kS C l cs h
 | .al l,v,h=>by
  simp only[bx,ah]
  rw[cL] at h
  exact exists_congr fun cs=>and_congr_right fun _=>kS C l cs h
 | .bs z l,v,_=>by simp only[bx,ah,C.aD]
 | .sl z sz f d l,v,h=>by
  simp only[bx,ah,C.aD]
  rw[cL] at h
  refine exists_congr fun a=>exists_congr fun n=>exists_congr fun c=>and_congr_right fun _=>and_congr_right fun _=>and_congr_right fun _=>and_congr_right fun _=>and_congr_right fun _=> ?_
  refine forall_congr' fun i=>forall_congr' fun x=>forall_congr' fun hx=>exists_congr fun b=>exists_congr fun o=>exists_congr fun cs=>and_congr_right fun _=>and_congr_right fun _=>and_congr_right fun _=> ?_
  exact and_congr_left fun _=>kS C (f x) cs (h x)
 | .own r ver sz off n,v,h=>by
  simp only[bx,ah]
  rw[cL] at h
  rw[C.ver r h,C.di r h]
  have e1:(ver+R.δ r≤E.ver r+R.δ r)↔ver≤E.ver r:=by omega
  have e2:(ver+R.δ r=E.ver r+R.δ r)↔ver=E.ver r:=by omega
  rw[e1,e2]
  have e3:(¬Ec.abs (R.σ r))↔¬E.abs r:=not_congr (C.abs r h)
  simp only[e3]
 | .ref r ver sz i j,v,h=>by
  simp only[bx,ah]
  rw[cL] at h
  rw[C.ver r h,C.di r h]
  have e1:(ver+R.δ r≤E.ver r+R.δ r)↔ver≤E.ver r:=by omega
  have e2:(ver+R.δ r=E.ver r+R.δ r)↔ver=E.ver r:=by omega
  rw[e1,e2]
 | .cp z cells j,v,h=>by
  simp only[bx,ah,C.aD]
  rw[cL] at h
  exact exists_congr fun b=>exists_congr fun o=>exists_congr fun cs=>and_congr_right fun _=>and_congr_right fun _=>and_congr_left fun _=>kS C cells cs h
 | .clo f caps,v,h=>by
  simp only[bx,ah]
  rw[cL] at h
  exact exists_congr fun cs=>and_congr_right fun _=>kS C caps cs h
 | .fI r ver,v,h=>by
  simp only[bx,ah]
  rw[cL] at h
  rw[C.ver r h,C.di r h]
  exact⟨fun⟨a,b⟩=>⟨by omega,fun e=>b (by omega)⟩,fun⟨a,b⟩=>⟨by omega,fun e=>b (by omega)⟩⟩
 | .pl r ver i off n,v,h=>by
  simp only[bx,ah]
  rw[cL] at h
  rw[C.ver r h,C.pl r h]
  exact⟨fun⟨a,b⟩=>⟨by omega,fun e=>b (by omega)⟩,fun⟨a,b⟩=>⟨by omega,fun e=>b (by omega)⟩⟩
 | .gU r ver i k,v,h=>by
  simp only[bx,ah]
  rw[cL] at h
  rw[C.ver r h,C.pl r h]
  exact⟨fun⟨a,b⟩=>⟨by omega,fun e=>b (by omega)⟩,fun⟨a,b⟩=>⟨by omega,fun e=>b (by omega)⟩⟩
 | .gd φ x,v,h=>by
  simp only[bx,ah]
  rw[cL] at h
  exact and_congr_left fun _=>forall_congr' fun _=>xW C x v h
theorem kS{D:Nat→Prop}{R:Ren}{E Ec:Env}{w:World}(C:oJ D R E Ec):∀(xs:List AV)(vs:List Value),cT D xs→(aw E w xs vs↔aw Ec w (b7 R xs) vs)
 | [],vs,_=>by simp only[b7,aw]
 | x::xs,vs,h=>by
  simp only[b7,aw]
  rw[cT] at h
  exact exists_congr fun v=>exists_congr fun cQ=>and_congr_right fun _=>and_congr (xW C x v h.1) (kS C xs cQ h.2)
end
def bL(R:Ren):Bd→Bd
 | .dead=> .dead
 | .bytes l=> .bytes l
 | .row sz f d l=> .row sz (fun a=>b7 R (f a)) d l
 | .obj l=> .obj (b7 R l)
 | .lp i tR st=> .lp i (b7 R tR) st
 | .aB ls=> .aB ls
def c8(D:Nat→Prop):Bd→Prop
 | .dead=>True
 | .bytes _=>True
 | .row _ f _ _=>∀a,cT D (f a)
 | .obj l=>cT D l
 | .lp _ tR _=>cT D tR
 | .aB _=>True
theorem xX{R:Ren}{b:Bd}{i:Nat}:(bL R b).at i=(b.at i).map (b7 R):=by
 cases b with
 | dead=>rfl
 | bytes l=>simp only[bL,Bd.at,Option.map_map,Function.comp_def,b7,bx]
 | row sz f d l=>simp only[bL,Bd.at,Option.map_map,Function.comp_def]
 | obj l=>simp only[bL,Bd.at];split<;>rfl
 | lp=>rfl
 | aB=>rfl
theorem iU{R:Ren}{b:Bd}:(bL R b).sz=b.sz∧(bL R b).count=b.count∧(bL R b).live=b.live:=by
 cases b<;>simp[bL,Bd.sz,Bd.count,Bd.live,B5]
theorem xY{R:Ren}{b:Bd}:(bL R b).iu=b.iu:=by cases b<;>rfl
theorem B6{R:Ren}{b:Bd}:(bL R b).jq=b.jq:=by cases b<;>rfl
theorem uB{R:Ren}{b:Bd}{ls:List (List UInt8)}(h:bL R b= .aB ls):b= .aB ls:=by cases b<;>simp only[bL] at h<;>first | (cases h;done) | exact h
theorem oJ.aO{D:Nat→Prop}{R:Ren}{E Ec:Env}(C:oJ D R E Ec){r:Nat}(h:D r)(e:U)(v b:Nat):aE E r e b↔aE Ec (R.σ r) ⟨v,bL R e.bd⟩ b:=by
 unfold aE bH
 simp only[(iU (R:=R) (b:=e.bd)).2.2,B6,C.di r h,C.abs r h,C.pl r h]
theorem xZ{D:Nat→Prop}{b:Bd}(h:c8 D b){i:Nat}{ys:List AV}(hy:b.at i=some ys):cT D ys:=by
 cases b with
 | dead=>simp[Bd.at] at hy
 | bytes l=>
  simp only[Bd.at,Option.map_eq_some_iff] at hy
  obtain⟨x,_,rfl⟩:=hy
  simp[cT,cL]
 | row sz f d l=>
  simp only[Bd.at,Option.map_eq_some_iff] at hy
  obtain⟨x,_,rfl⟩:=hy
  exact h x
 | obj l=>
  simp only[Bd.at] at hy
  split at hy
  ·cases hy;exact h
  ·cases hy
 | lp=>simp[Bd.at] at hy
 | aB=>simp[Bd.at] at hy
theorem fx.B7{D:Nat→Prop}{R:Ren}{E Ec:Env}{w:World}(C:oJ D R E Ec){b:Nat}{bd:Bd}(hon:c8 D bd):fx E w b bd↔fx Ec w b (bL R bd):=by
 obtain⟨e1,e2,e3⟩:=iU (R:=R) (b:=bd)
 constructor
 ·intro h
  refine⟨fun hl=> ?_,fun i tR st e=> ?_⟩
  rotate_left
  ·cases b9:bd<;>rw[b9] at e<;>first | (cases e;done) | skip
   rename_i i' B8 B9
   simp only[bL,Bd.lp.injEq] at e
   obtain⟨rfl,rfl,rfl⟩:=e
   obtain⟨h0,Rr,h1,h2,h3,h4,h5,h6,h7,h8,h9⟩:=h.lp _ _ _ b9
   rw[b9] at hon
   exact⟨h0,Rr,h1,h2,h3,h4,h5,h6,h7,(kS C _ _ hon).1 h8,fun D hD=>⟨(exists_congr fun z=>C.aD z D).2 (h9 D hD).1,(h9 D hD).2⟩⟩
  rw[xY] at hl
  obtain⟨cur,T,lo,hi,h1,h2,h3,h4⟩:=h.aO hl
  refine⟨cur,T,lo,hi,h1,h2,by rw[e1,e2];exact h3,fun i ys hy=> ?_⟩
  rw[xX,Option.map_eq_some_iff] at hy
  obtain⟨Ib,nG,rfl⟩:=hy
  obtain⟨cs,h5,h6,h7⟩:=h4 i Ib nG
  exact⟨cs,by rw[e1];exact h5,(kS C _ _ (xZ hon nG)).1 h6,by rw[e1];exact h7⟩
 ·intro h
  refine⟨fun hl=> ?_,fun i tR st e=> ?_⟩
  rotate_left
  ·subst e
   obtain⟨h0,Rr,h1,h2,h3,h4,h5,h6,h7,h8,h9⟩:=h.lp _ _ _ rfl
   exact⟨h0,Rr,h1,h2,h3,h4,h5,h6,h7,(kS C _ _ hon).2 h8,fun D hD=>⟨(exists_congr fun z=>C.aD z D).1 (h9 D hD).1,(h9 D hD).2⟩⟩
  obtain⟨cur,T,lo,hi,h1,h2,h3,h4⟩:=h.aO (by rw[xY];exact hl)
  refine⟨cur,T,lo,hi,h1,h2,by rw[e1,e2] at h3;exact h3,fun i ys hy=> ?_⟩
  obtain⟨cs,h5,h6,h7⟩:=h4 i (b7 R ys) (by rw[xX,hy];rfl)
  exact⟨cs,by rw[e1] at h5;exact h5,(kS C _ _ (xZ hon hy)).2 h6,by rw[e1] at h7;exact h7⟩
/-! a call -/
def dP(e0 e:U):Prop:=e0.ver=e.ver∧(e.bd.live=true→e0.bd.live=true)∧(e0.bd.count=0→e.bd.count=0)∧(e.bd.live=true→∀(E:Env)(w:World)(b:Nat),fx E w b e0.bd→fx E w b e.bd)∧∀ls,e.bd= .aB ls→e0.bd= .aB ls
theorem dP.refl(e:U):dP e e:=⟨rfl,id,id,fun _ _ _ _ h=>h,fun _ h=>h⟩
theorem dP.dead(v:Nat)(b:Bd):dP ⟨v,b⟩ ⟨v,.dead⟩:=⟨rfl,(fun h=>by cases h),(fun _=>rfl),(fun h=>by cases h),fun _ h=>by cases h⟩
theorem dP.aO{E:Env}{r b:Nat}{e0 e:U}(h:dP e0 e)(hb:aE E r e b):aE E r e0 b:=by
 rcases hb with⟨h1,h2⟩ | ⟨h1,h2⟩
 ·exact .inl ⟨⟨h.2.1 h1.1,h1.2⟩,h2⟩
 ·obtain⟨ls,he⟩:=AP h1
  have:=h.2.2.2.2 ls (by rw[he])
  exact .inr ⟨by rw[this];rfl,h2⟩
theorem dP.take(v:Nat)(l:List UInt8)(k:Nat):dP ⟨v,.bytes l⟩ ⟨v,.bytes (l.take k)⟩:=by
 refine⟨rfl,fun _=>rfl,fun h=> ?_,fun _ E w b h=>⟨fun _=> ?_,fun _ _ _ q=>by cases q⟩,fun _ q=>by cases q⟩
 ·simp only[Bd.count] at h⊢
  rw[List.length_take];omega
 ·obtain⟨cur,T,lo,hi,h1,h2,h3,h4⟩:=h.aO rfl
  refine⟨cur,T,lo,hi,h1,h2,?_,fun i ys hy=> ?_⟩
  ·simp only[Bd.count,Bd.sz,Nat.mul_one] at h3⊢
   rw[List.length_take];omega
  ·refine h4 i ys ?_
   simp only[Bd.at,List.getElem?_take] at hy⊢
   split at hy
   ·exact hy
   ·cases hy
theorem dP.row(v sz:Nat){α β:Type}{f:α→List AV}{d:α}{l:List α}{f':β→List AV}{d':β}{l':List β}(h:l.map f=l'.map f'):dP ⟨v,.row sz f d l⟩ ⟨v,.row sz f' d' l'⟩:=by
 have hl:l.length=l'.length:=by have:=congrArg List.length h;simpa using this
 refine⟨rfl,fun _=>rfl,fun q=> ?_,fun _ E w b h0=>⟨fun _=> ?_,fun _ _ _ q=>by cases q⟩,fun _ q=>by cases q⟩
 ·simp only[Bd.count] at q⊢;omega
 ·obtain⟨cur,T,lo,hi,h1,h2,h3,h4⟩:=h0.aO rfl
  refine⟨cur,T,lo,hi,h1,h2,?_,fun i ys hy=> ?_⟩
  ·simp only[Bd.count,Bd.sz] at h3⊢;rwa [←hl]
  ·refine h4 i ys ?_
   simp only[Bd.at] at hy⊢
   rw[←List.getElem?_map,←h] at hy
   rw[←List.getElem?_map];exact hy
def cX(H:List U)(r:Nat):U:=match aT H r with
 | some e=>e
 | none=>⟨0,.dead⟩
def dQ(R:Ren)(H:List U):List Nat→List (Nat×U)
 | []=>[]
 | r::rs=>(R.σ r,⟨(cX H r).ver+R.δ r,bL R (cX H r).bd⟩)::dQ R H rs
theorem Ca {R : Ren} {H1 : List U} : ∀ {rs : List Nat} {H : List U}, rs.Nodup → (∀ a b, a ∈ rs → b ∈ rs → R.σ a = R.σ b → a = b) → (∀ a, a ∈ rs → R.σ a < H.length) →
    (aK H (dQ R H1 rs)).length=H.length∧(∀r,r∈rs→(aK H (dQ R H1 rs))[R.σ r]? =some ⟨(cX H1 r).ver+R.δ r,bL R (cX H1 r).bd⟩)∧∀q,(∀a,a∈rs→R.σ a≠q)→(aK H (dQ R H1 rs))[q]? =H[q]?
 | [],H,_,_,_=>⟨rfl,by simp,fun q _=>rfl⟩
 | r::rs,H,bW,hC,ai=>by
  obtain⟨hr,Ic⟩:=List.nodup_cons.1 bW
  simp only[dQ,aK,bI]
  obtain⟨h1,h2,h3⟩:=Ca (R:=R) (H1:=H1) (rs:=rs) (H:=H.set (R.σ r) ⟨(cX H1 r).ver+R.δ r,bL R (cX H1 r).bd⟩) Ic (fun a b ha hb=>hC a b (by simp[ha]) (by simp[hb])) (fun a ha=>by rw[List.length_set];exact ai a (by simp[ha]))
  refine⟨by rw[h1,List.length_set],fun k hk=> ?_,fun q hq=> ?_⟩
  ·rcases List.mem_cons.1 hk with rfl | hk
   ·rw[h3 _ (fun a ha he=>hr (by rw[←hC a k (by simp[ha]) (by simp) he];exact ha))]
    exact List.getElem?_set_self (ai k (by simp))
   ·exact h2 k hk
  ·rw[h3 q (fun a ha=>hq a (by simp[ha]))]
   exact List.getElem?_set_ne (hq r (by simp))
theorem mz{H:List U}{r:Nat}(h:r<H.length):H[r]? =some (cX H r):=by
 unfold cX
 rw[bS,List.getElem?_eq_getElem h]
theorem Cb {P : Program} {f : FuncId} {cO : List AV} {H0 : List U} {post : AV → List U → Prop} (S : Spec P f cO H0 post) (eK : ∀ (as : Array Value) (w : World), (callFunc f as).run P w = .ok (.enter f as) w)
    (R:Ren) (rs:List Nat) (bW:rs.Nodup) (hp:∀r,r<H0.length→r∈rs∧R.δ r=0) (hC:∀a b,a∈rs→b∈rs→R.σ a=R.σ b→a=b) {args:List AV} {hg:Nat→Option U}
    (cr:args=b7 R cO) (hon:cT (· <H0.length) cO) (hrows:∀r e,H0[r]? =some e→c8 (· <H0.length) e.bd∧∃e',hg (R.σ r)=some e'∧dP e' ⟨e.ver,bL R e.bd⟩)
    (had:∀r,r∈rs→H0.length≤r→∃e,hg (R.σ r)=some e∧e.ver<R.δ r)
    (iT:∀x H1,post x H1→cL (· ∈rs) x∧∀r,r∈rs→r<H1.length∧c8 (· ∈rs) (cX H1 r).bd):
    xN P f args hg fun x us=>∃x0 H1,post x0 H1∧x=bx R x0∧us=dQ R H1 rs:=by
 intro E H w cargs hr hh sm
 refine .inl ⟨eK _ _,?_⟩
 -- the rows as the function sees them
 obtain⟨E0,gv⟩:∃E0:Env,E0={ρ:=fun r=>E.ρ (R.σ r),ver:=fun r=>if r<H0.length then E.ver (R.σ r) else 0,aD:=E.aD,abs:=fun r=>if r<H0.length then E.abs (R.σ r) else False,pl:=fun r=>E.pl (R.σ r)}:=⟨_,rfl⟩
 have C0:oJ (· <H0.length) R E0 E:=by
  subst gv
  exact⟨fun r h=>by simp[h,(hp r h).2],fun r h=>rfl,fun r h=>by simp[h],fun z b=>Iff.rfl,fun r h=>rfl⟩
 have ai:∀r,r∈rs→R.σ r<H.length:=by
  intro r bb
  by_cases h:r<H0.length
  ·obtain⟨_,e',jM,_⟩:=hrows r _ (mz h)
   exact(List.getElem?_eq_some_iff.1 (hh _ _ jM)).1
  ·obtain⟨e,he,_⟩:=had r bb (by omega)
   exact(List.getElem?_eq_some_iff.1 (hh _ _ he)).1
 have so:∀(r:Nat)(e:U),H0[r]? =some e→∃e',H[R.σ r]? =some e'∧dP e' ⟨e.ver,bL R e.bd⟩:=fun r e he=>by
  obtain⟨_,e',h1,h2⟩:=hrows r e he
  exact⟨e',hh _ _ h1,h2⟩
 have kq:∀(r:Nat)(e:U),H0[r]? =some e→r<H0.length:=fun r e he=>(List.getElem?_eq_some_iff.1 he).1
 have Ie:∀(r:Nat)(e:U),H0[r]? =some e→bH E0 r e→∃e',H[R.σ r]? =some e'∧dP e' ⟨e.ver,bL R e.bd⟩∧bH E (R.σ r) e':=by
  intro r e he hl
  obtain⟨e',h1,h2⟩:=so r e he
  refine⟨e',h1,h2,h2.2.1 ?_,fun q=>hl.2 ((C0.abs r (kq r e he)).1 q)⟩
  rw[(iU (R:=R) (b:=e.bd)).2.2];exact hl.1
 have oK:∀(r:Nat)(e:U)(b:Nat),H0[r]? =some e→aE E0 r e b→∃e',H[R.σ r]? =some e'∧aE E (R.σ r) e' b:=by
  intro r e b he hl
  obtain⟨e',h1,h2⟩:=so r e he
  exact⟨e',h1,h2.aO ((C0.aO (kq r e he) e e.ver b).1 hl)⟩
 have sq:HR E0 w H0:=by
  refine⟨fun r e he=> ?_,fun r e he hl=> ?_,fun r e he ha=> ?_,fun r r' e e' b he jM hl bu=> ?_,?_,fun r e b he hl z hz=> ?_,fun r iP=> ?_,by subst gv;exact hr.gl,fun r v ls he=> ?_⟩
  ·have:=C0.ver r (kq r e he)
   rw[(hp r (kq r e he)).2] at this
   obtain⟨e',h1,h2⟩:=so r e he
   have h3:=hr.ver _ _ h1
   have h4:=h2.1
   simp only at h4;omega
  ·obtain⟨e',h1,h2,h3⟩:=Ie r e he hl
   have:=hr.bM _ _ h1 h3
   rw[C0.di r (kq r e he)] at this
   refine(fx.B7 C0 (hrows r e he).1).2 (h2.2.2.2.1 ?_ _ _ _ this)
   show(bL R e.bd).live=true
   rw[(iU (R:=R) (b:=e.bd)).2.2];exact hl.1
  ·obtain⟨e',h1,h2⟩:=so r e he
   have:=h2.2.2.1 (hr.abs _ _ h1 ((C0.abs r (kq r e he)).2 ha))
   rwa [(iU (R:=R) (b:=e.bd)).2.1] at this
  ·obtain⟨e1,h1,h3⟩:=oK r e b he hl
   obtain⟨e2,g1,g3⟩:=oK r' e' b jM bu
   exact hC r r' (hp r (kq r e he)).1 (hp r' (kq r' e' jM)).1 (hr.inj _ _ _ _ b h1 g1 h3 g3)
  ·subst gv;exact hr.cJ
  ·obtain⟨e1,h1,h3⟩:=oK r e b he hl
   exact hr.dj _ _ b h1 h3 z ((C0.aD z _).2 hz)
  ·subst gv
   have:¬r<H0.length:=by omega
   simp[this]
  ·obtain⟨e',h1,h2⟩:=so r _ he
   have h3:=h2.2.2.2.2 ls rfl
   rw[←C0.pl r (kq r _ he)]
   exact hr.aB _ e'.ver ls (by rw[h1,←h3])
 have If:aw E0 w cO cargs:=(kS C0 cO cargs hon).2 (cr▸sm)
 refine Calls.mono (S w E0 cargs sq If) fun e w'⟨v,x0,H1,E1,he,lJ,hv,cG,X1,mA,uC,nH,c9⟩=> ?_
 obtain⟨Ig,mB⟩:=iT x0 H1 lJ
 obtain⟨Ih,Ii,Ij⟩:=Ca (R:=R) (H1:=H1) (H:=H) bW hC ai
 -- the caller's addresses behind the call
 obtain⟨inv,hinv⟩:∃inv:Nat→Option Nat,∀q,(∀r,inv q=some r→r∈rs∧R.σ r=q)∧(inv q=none→∀r,r∈rs→R.σ r≠q):=by
  refine⟨fun q=>rs.find? (fun r=>R.σ r==q),fun q=>⟨fun r h=> ?_,fun h r bb he=> ?_⟩⟩
  ·exact⟨List.mem_of_find?_eq_some h,by simpa using List.find?_some h⟩
  ·have:=List.find?_eq_none.1 h r bb
   simp[he] at this
 have uD:∀r,r∈rs→inv (R.σ r)=some r:=by
  intro r bb
  cases hq:inv (R.σ r) with
  | none=>exact absurd rfl ((hinv _).2 hq r bb)
  | some r'=>
   obtain⟨h1,h2⟩:=(hinv _).1 r' hq
   rw[hC r' r h1 bb h2]
 obtain⟨E',aR⟩:∃E':Env,E'={ρ:=fun q=>match inv q with | some r=>E1.ρ r | none=>E.ρ q,ver:=fun q=>match inv q with | some r=>E1.ver r+R.δ r | none=>E.ver q,aD:=E1.aD,abs:=fun q=>match inv q with | some r=>E1.abs r | none=>E.abs q,pl:=fun q=>match inv q with | some r=>E1.pl r | none=>E.pl q}:=⟨_,rfl⟩
 have C1:oJ (· ∈rs) R E1 E':=by
  subst aR
  exact⟨fun r h=>by simp[uD r h],fun r h=>by simp[uD r h],fun r h=>by simp[uD r h],fun z b=>Iff.rfl,fun r h=>by simp[uD r h]⟩
 have jR:∀q,(∀r,r∈rs→R.σ r≠q)→E'.ρ q=E.ρ q∧E'.ver q=E.ver q∧E'.abs q=E.abs q∧E'.pl q=E.pl q:=by
  intro q hq
  subst aR
  have:inv q=none:=by
   cases h:inv q with
   | none=>rfl
   | some r=>exact absurd ((hinv q).1 r h).2 (hq r ((hinv q).1 r h).1)
  simp[this]
 have ow:∀q,(∃r,r∈rs∧R.σ r=q)∨(∀r,r∈rs→R.σ r≠q):=by
  intro q
  cases h:inv q with
  | some r=>exact .inl ⟨r,(hinv q).1 r h⟩
  | none=>exact .inr ((hinv q).2 h)
 have uE:∀z b,E0.aD z b↔E.aD z b:=fun z b=>(C0.aD z b).symm
 -- a row of the caller's that was not handed in keeps its block
 have jD:∀k,k<w.heap.size→(∀(r:Nat)(e:U),H0[r]? =some e→¬aE E0 r e k)→w'.heap[k]? =w.heap[k]?:=fun k hk h=>c9.block k hk h
 have uF:∀(q:Nat)(e:U)(b:Nat),H[q]? =some e→aE E q e b→(∀r,r∈rs→R.σ r≠q)→∀(r:Nat)(e0:U),H0[r]? =some e0→¬aE E0 r e0 b:=by
  intro q e b hq hl aF r e0 iV gL
  obtain⟨e1,h1,h3⟩:=oK r e0 b iV gL
  exact aF r (hp r (kq r e0 iV)).1 (hr.inj _ _ _ _ b h1 hq h3 hl)
 have rU:∀r,r∈rs→H0.length≤r→E.ver (R.σ r)<R.δ r:=by
  intro r bb iP
  obtain⟨e,he,nr⟩:=had r bb iP
  rw[hr.ver _ _ (hh _ _ he)];exact nr
 have jS:∀r,r<H0.length→E.ver (R.σ r)=E0.ver r∧E'.ver (R.σ r)=E1.ver r:=by
  intro r h
  have h1:=C0.ver r h
  have h2:=C1.ver r (hp r h).1
  rw[(hp r h).2] at h1 h2
  exact⟨h1,h2⟩
 have X:Ext E E' w w':=by
  refine⟨fun q=> ?_,fun q e=> ?_,fun q e=> ?_,fun z b hz=> ?_,fun z b hz=>X1.cell z b ((uE z b).2 hz),fun k cur T fz hc=>c9.grow _ cur T fz hc,fun q e i b hi=> ?_⟩
  ·rcases ow q with⟨r,bb,rfl⟩ | hq
   ·by_cases h:r<H0.length
    ·rw[(jS r h).1,(jS r h).2];exact X1.ver r
    ·have:=rU r bb (by omega)
     have:=C1.ver r bb
     omega
   ·rw[(jR q hq).2.1];exact Nat.le_refl _
  ·rcases ow q with⟨r,bb,rfl⟩ | hq
   ·by_cases h:r<H0.length
    ·rw[(jS r h).1,(jS r h).2] at e
     rw[C1.di r bb,C0.di r h];exact X1.di r e
    ·have:=rU r bb (by omega)
     have:=C1.ver r bb
     omega
   ·exact(jR q hq).1
  ·rcases ow q with⟨r,bb,rfl⟩ | hq
   ·by_cases h:r<H0.length
    ·rw[(jS r h).1,(jS r h).2] at e
     rw[C1.abs r bb,C0.abs r h];exact X1.abs r e
    ·have:=rU r bb (by omega)
     have:=C1.ver r bb
     omega
   ·rw[(jR q hq).2.2.1]
  ·exact(C1.aD z b).2 (X1.aD z b ((uE z b).2 hz))
  ·rcases ow q with⟨r,bb,rfl⟩ | hq
   ·by_cases h:r<H0.length
    ·rw[(jS r h).1,(jS r h).2] at e
     rw[C1.pl r bb]
     rw[C0.pl r h] at hi
     exact X1.pl r e i b hi
    ·have:=rU r bb (by omega)
     have:=C1.ver r bb
     omega
   ·rw[(jR q hq).2.2.2];exact hi
 have nI:∀(q:Nat)(e:U),(aK H (dQ R H1 rs))[q]? =some e→(∃r,r∈rs∧R.σ r=q∧e=⟨(cX H1 r).ver+R.δ r,bL R (cX H1 r).bd⟩)∨((∀r,r∈rs→R.σ r≠q)∧H[q]? =some e):=by
  intro q e he
  rcases ow q with⟨r,bb,rfl⟩ | hq
  ·rw[Ii r bb] at he
   exact .inl ⟨r,bb,rfl,(Option.some.inj he).symm⟩
  ·rw[Ij q hq] at he
   exact .inr ⟨hq,he⟩
 have Ik:∀r,r∈rs→(bH E1 r (cX H1 r)↔bH E' (R.σ r) ⟨(cX H1 r).ver+R.δ r,bL R (cX H1 r).bd⟩):=by
  intro r bb
  unfold bH
  rw[(iU (R:=R) (b:=(cX H1 r).bd)).2.2,C1.abs r bb]
 have Cc:∀(q:Nat)(e:U),(∀r,r∈rs→R.σ r≠q)→(bH E' q e↔bH E q e):=by
  intro q e hq
  unfold bH
  rw[(jR q hq).2.2.1]
 have qs:∀(q:Nat)(e:U)(b:Nat),(∀r,r∈rs→R.σ r≠q)→(aE E' q e b↔aE E q e b):=by
  intro q e b hq
  unfold aE
  rw[Cc q e hq,(jR q hq).1,(jR q hq).2.2.2]
 have Cd:∀r b,r∈rs→aE E1 r (cX H1 r) b→w.heap.size≤b∨∃(r0:Nat)(e0:U),H0[r0]? =some e0∧aE E0 r0 e0 b:=fun r b bb hl=>nH r _ b (mz (mB r bb).1) hl
 have sr:HR E' w' (aK H (dQ R H1 rs)):=by
  refine⟨fun q e he=> ?_,fun q e he hl=> ?_,fun q e he ha=> ?_,fun q q' e e' b he jM hl bu=> ?_,fun z b hz=>cG.cJ z b ((C1.aD z b).1 hz),fun q e b he hl z hz=> ?_,fun q iP=> ?_,hr.gl.ext X,fun q v ls he=> ?_⟩
  ·rcases nI q e he with⟨r,bb,rfl,rfl⟩ | ⟨hq,he⟩
   ·rw[C1.ver r bb,cG.ver r _ (mz (mB r bb).1)]
   ·rw[(jR q hq).2.1];exact hr.ver q e he
  ·rcases nI q e he with⟨r,bb,rfl,rfl⟩ | ⟨hq,he⟩
   ·rw[C1.di r bb]
    exact(fx.B7 C1 (mB r bb).2).1 (cG.bM r _ (mz (mB r bb).1) ((Ik r bb).2 hl))
   ·rw[(jR q hq).1]
    have hl:=(Cc q e hq).1 hl
    exact(hr.bM q e he hl).ext X (jD _ (hr.lt he hl) (uF q e _ he (aE.of hl) hq))
  ·rcases nI q e he with⟨r,bb,rfl,rfl⟩ | ⟨hq,he⟩
   ·rw[(iU (R:=R)).2.1]
    exact cG.abs r _ (mz (mB r bb).1) ((C1.abs r bb).1 ha)
   ·rw[(jR q hq).2.2.1] at ha;exact hr.abs q e he ha
  ·have mixed:∀(r q:Nat)(e:U),r∈rs→aE E1 r (cX H1 r) b→(∀r,r∈rs→R.σ r≠q)→H[q]? =some e→¬aE E q e b:=by
     intro r q e bb hl hq he jv
     rcases Cd r b bb hl with h | ⟨r0,e0,h2,h3⟩
     ·have:=hr.blt he jv;omega
     ·exact uF q e b he jv hq r0 e0 h2 h3
   rcases nI q e he with⟨r,bb,rfl,rfl⟩ | ⟨hq,he⟩<;>rcases nI q' e' jM with⟨r2,hr2,rfl,rfl⟩ | ⟨mC,qt⟩
   ·rw[cG.inj r r2 _ _ b (mz (mB r bb).1) (mz (mB r2 hr2).1) ((C1.aO bb _ _ b).2 hl) ((C1.aO hr2 _ _ b).2 bu)]
   ·exact absurd ((qs q' e' b mC).1 bu) (mixed r q' e' bb ((C1.aO bb _ _ b).2 hl) mC qt)
   ·exact absurd ((qs q e b hq).1 hl) (mixed r2 q e hr2 ((C1.aO hr2 _ _ b).2 bu) hq he)
   ·exact hr.inj q q' e e' b he qt ((qs q e b hq).1 hl) ((qs q' e' b mC).1 bu)
  ·have hz:=(C1.aD z _).1 hz
   rcases nI q e he with⟨r,bb,rfl,rfl⟩ | ⟨hq,he⟩
   ·exact cG.dj r _ b (mz (mB r bb).1) ((C1.aO bb _ _ b).2 hl) z hz
   ·have hl:=(qs q e b hq).1 hl
    rcases mA z _ hz with h | h | ⟨r0,e0,h2,h3⟩
    ·exact hr.dj q e b he hl z ((uE z _).1 h)
    ·have:=hr.blt he hl;omega
    ·exact uF q e b he hl hq r0 e0 h2 h3
  ·rw[Ih] at iP
   have hq:∀r,r∈rs→R.σ r≠q:=fun r bb h=>by have:=ai r bb;omega
   rw[(jR q hq).2.1,(jR q hq).2.2.1]
   exact hr.top q iP
  ·rcases nI q _ he with⟨r,bb,rfl,h1⟩ | ⟨hq,he⟩
   ·have h2:=uB (U.mk.inj h1).2.symm
    rw[C1.pl r bb]
    exact cG.aB r (cX H1 r).ver ls (by rw[mz (mB r bb).1,←h2])
   ·rw[(jR q hq).2.2.2]
    exact(hr.aB q v ls he).lx fun i b hb=>jD b ((hr.aB q v ls he).lt hb) (uF q _ b he (.inr ⟨rfl,i,hb⟩) hq)
 have bV:∀r,r∈rs→R.σ r∈(dQ R H1 rs).map (·.1):=by
  intro r
  have:∀(l:List Nat),r∈l→R.σ r∈(dQ R H1 l).map (·.1):=by
   intro l
   induction l with
   | nil=>intro h;simp at h
   | cons a l ih=>
    intro h
    simp only[dQ,List.map_cons,List.mem_cons]
    rcases List.mem_cons.1 h with rfl | h
    ·exact .inl rfl
    ·exact .inr (ih h)
  exact this rs
 refine⟨v,he,bx R x0,dQ R H1 rs,E',⟨x0,H1,lJ,rfl,rfl⟩,(xW C1 x0 v Ig).1 hv,⟨X,sr,c9.os,c9.tape,c9.output,c9.size,fun z b hz=> ?_,c9.grow,fun k hk hb=> ?_,fun q e b he hl=> ?_⟩⟩
 ·exact(mA z b ((C1.aD z b).1 hz)).imp (uE z b).1 (Or.imp id fun⟨r0,e0,h2,h3⟩=>let⟨e',g1,g2⟩:=oK r0 e0 b h2 h3;⟨_,e',g1,g2⟩)
 ·refine jD k hk fun r e0 iV gL=> ?_
  obtain⟨e1,g1,g3⟩:=oK r e0 k iV gL
  exact hb (R.σ r) _ g1 g3 (bV r (hp r (kq r e0 iV)).1)
 ·rcases nI q e he with⟨r,bb,rfl,rfl⟩ | ⟨hq,he⟩
  ·rcases Cd r b bb ((C1.aO bb _ _ b).2 hl) with h | ⟨r0,e0,h2,h3⟩
   ·exact .inl h
   ·obtain⟨e1,g1,g3⟩:=oK r0 e0 b h2 h3
    exact .inr ⟨R.σ r0,_,g1,g3,.inr (bV r0 (hp r0 (kq r0 e0 h2)).1)⟩
  ·exact .inr ⟨q,e,he,(qs q e b hq).1 hl,.inl rfl⟩
theorem x5{P:Program}{f:FuncId}{caps args:List AV}{hg:Nat→Option U}{K:AV→List (Nat×U)→Prop}{post:AV→List (Nat×U)→Prop}(h:xN P f (args++caps) hg post)(hK:∀v us,post v us→K v us):eV P (.clo f caps) args hg K:=by
 unfold eV
 exact⟨f,caps,rfl,post,h,hK⟩
end Go.Proofs.YtpbpiehcchannaaGreatDoor

/-! Abstract values: a region that draws its order: one order is enough. Conditions: the premises of 'draw_of'. -/
namespace Go.Proofs.YtpbpiehcchannaaGreatDoor
set_option linter.unusedVariables false
set_option linter.unusedSimpArgs false
open Go.RowKit
abbrev Us:=List (Nat×U)
def ed:Us→Nat→Option U
 | [],_=>none
 | (q,e)::us,r=>match ed us r with
  | some e'=>some e'
  | none=>if q=r then some e else none
theorem uG:∀(us:Us)(H:List U)(r:Nat),(aK H us)[r]? =(H[r]?).map fun e0=>(ed us r).getD e0
 | [],H,r=>by simp[aK,ed]
 | (q,e)::us,H,r=>by
  simp only[aK,bI,ed]
  rw[uG us]
  by_cases hq:q=r
  ·subst hq
   by_cases ai:q<H.length
   ·rw[List.getElem?_set_self ai,List.getElem?_eq_getElem ai]
    cases ed us q<;>simp
   ·rw[List.getElem?_eq_none (by simpa using ai),List.getElem?_eq_none (by simpa using ai)];rfl
  ·rw[List.getElem?_set_ne hq]
   cases ed us r<;>simp[hq]
theorem Ce:∀(us:Us)(H:List U),(aK H us).length=H.length
 | [],_=>rfl
 | (q,e)::us,H=>by simp only[aK,bI];rw[Ce us];simp
abbrev Tr:=List (Nat×AV×Us)
section
variable (dst:Nat→Option Tmp)
def mD(i:Nat)(v:AV)(us:Us)(s:St):St:=⟨aV s.t (dst i) v,aK s.H us⟩
def bJ(L:Nat→Bool):Tr→St→St
 | [],s=>s
 | (i,v,us)::tr,s=>bJ L tr (if L i then mD dst i v us s else s)
def fO(L:Nat→Bool):Tr→Nat→Option U
 | [],_=>none
 | (i,_,us)::tr,r=>match fO L tr r with
  | some e=>some e
  | none=>if L i then ed us r else none
def fP(L:Nat→Bool):Tr→Nat→Option AV
 | [],_=>none
 | (i,v,_)::tr,k=>match fP L tr k with
  | some e=>some e
  | none=>if L i&&dst i==some k then some v else none
theorem Cf(t:List AV)(d:Option Tmp)(v:AV)(k:Nat):(aV t d v)[k]? =(t[k]?).map fun x0=>if d=some k then v else x0:=by
 cases d with
 | none=>simp[aV]
 | some d=>
  simp only[aV,bI,Option.some.injEq]
  by_cases hd:d=k
  ·subst hd
   by_cases ai:d<t.length
   ·rw[List.getElem?_set_self ai,List.getElem?_eq_getElem ai];simp
   ·rw[List.getElem?_eq_none (by simpa using ai),List.getElem?_eq_none (by simpa using ai)];rfl
  ·rw[List.getElem?_set_ne hd];simp[hd]
theorem ss(L:Nat→Bool):∀(tr:Tr)(s:St)(r:Nat),(bJ dst L tr s).H[r]? =(s.H[r]?).map fun e0=>(fO L tr r).getD e0
 | [],s,r=>by simp[bJ,fO]
 | (i,v,us)::tr,s,r=>by
  simp only[bJ,fO]
  rw[ss L tr]
  cases hL:L i
  ·simp only[Bool.false_eq_true,if_false]
   cases fO L tr r<;>simp
  ·simp only[if_true,mD,uG,Option.map_map]
   cases fO L tr r<;>simp[Function.comp_def]
theorem su(L:Nat→Bool):∀(tr:Tr)(s:St)(k:Nat),(bJ dst L tr s).t[k]? =(s.t[k]?).map fun e0=>(fP dst L tr k).getD e0
 | [],s,r=>by simp[bJ,fP]
 | (i,v,us)::tr,s,k=>by
  simp only[bJ,fP]
  rw[su L tr]
  cases hL:L i
  ·simp only[Bool.false_eq_true,if_false,Bool.false_and]
   cases fP dst L tr k<;>simp
  ·simp only[if_true,mD,Cf,Option.map_map,Bool.true_and]
   cases fP dst L tr k with
   | some e=>simp[Function.comp_def]
   | none=>
    simp only[Option.getD_none,Function.comp_def]
    by_cases hd:dst i=some k
    ·simp[hd]
    ·simp[hd]
theorem St.ext'{s s':St}(h1:∀k:Nat,s.t[k]? =s'.t[k]?)(h2:∀r:Nat,s.H[r]? =s'.H[r]?):s=s':=by
 cases s;cases s'
 simp only[St.mk.injEq]
 exact⟨List.ext_getElem? h1,List.ext_getElem? h2⟩
theorem uH(L:Nat→Bool):∀(a b:Tr)(r:Nat),fO L (a++b) r=(fO L b r).or (fO L a r)
 | [],b,r=>by simp[fO]
 | (i,v,us)::a,b,r=>by
  simp only[List.cons_append,fO]
  rw[uH L a b]
  cases fO L b r<;>simp
theorem uI(L:Nat→Bool):∀(a b:Tr)(r:Nat),fP dst L (a++b) r=(fP dst L b r).or (fP dst L a r)
 | [],b,r=>by simp[fP]
 | (i,v,us)::a,b,r=>by
  simp only[List.cons_append,fP]
  rw[uI L a b]
  cases fP dst L b r<;>simp
theorem x6{L L':Nat→Bool}{r:Nat}:∀{tr:Tr},(∀y∈tr,ed y.2.2 r≠none→L y.1=L' y.1)→fO L tr r=fO L' tr r
 | [],_=>rfl
 | (i,v,us)::tr,h=>by
  simp only[fO]
  rw[x6 (tr:=tr) (fun y hy=>h y (by simp[hy]))]
  by_cases hu:ed us r=none
  ·simp[hu]
  ·rw[h (i,v,us) (by simp) hu]
theorem x7{L:Nat→Bool}{r:Nat}:∀{tr:Tr},(∀y∈tr,ed y.2.2 r≠none→L y.1=false)→fO L tr r=none
 | [],_=>rfl
 | (i,v,us)::tr,h=>by
  simp only[fO]
  rw[x7 (tr:=tr) (fun y hy=>h y (by simp[hy]))]
  by_cases hu:ed us r=none
  ·simp[hu]
  ·simp[h (i,v,us) (by simp) hu]
theorem x8{L L':Nat→Bool}{k:Nat}:∀{tr:Tr},(∀y∈tr,dst y.1=some k→L y.1=L' y.1)→fP dst L tr k=fP dst L' tr k
 | [],_=>rfl
 | (i,v,us)::tr,h=>by
  simp only[fP]
  rw[x8 (tr:=tr) (fun y hy=>h y (by simp[hy]))]
  by_cases hu:dst i=some k
  ·rw[h (i,v,us) (by simp) hu]
  ·simp[hu]
theorem x9{L:Nat→Bool}{k:Nat}:∀{tr:Tr},(∀y∈tr,dst y.1=some k→L y.1=false)→fP dst L tr k=none
 | [],_=>rfl
 | (i,v,us)::tr,h=>by
  simp only[fP]
  rw[x9 (tr:=tr) (fun y hy=>h y (by simp[hy]))]
  by_cases hu:dst i=some k
  ·simp[h (i,v,us) (by simp) hu]
  ·simp[hu]
theorem Il {L : Nat → Bool} {t1 t2 : Tr} {i : Nat} {v : AV} {us : Us} {s : St} (hi : L i = false) (h1 : ∀ y ∈ t1, y.1 ≠ i) (h2 : ∀ y ∈ t2, y.1 ≠ i)
    (hS:∀y∈t2,∀k,dst i=some k→dst y.1=some k→L y.1=false) (hH:∀y∈t2,∀r,ed us r≠none→ed y.2.2 r≠none→L y.1=false):
    bJ dst (fun j=>L j||j==i) (t1++(i,v,us)::t2) s=mD dst i v us (bJ dst L (t1++(i,v,us)::t2) s):=by
 have e1:∀{tr:Tr},(∀y∈tr,y.1≠i)→∀r,fO (fun j=>L j||j==i) tr r=fO L tr r:=fun h r=>x6 fun y hy _=>by simp[h y hy]
 have e2:∀{tr:Tr},(∀y∈tr,y.1≠i)→∀k,fP dst (fun j=>L j||j==i) tr k=fP dst L tr k:=fun h k=>x8 dst fun y hy _=>by simp[h y hy]
 refine St.ext' (fun k=> ?_) (fun r=> ?_)
 ·rw[su]
  simp only[mD,Cf,su,Option.map_map]
  congr 1
  funext x0
  simp only[Function.comp_def]
  rw[uI,uI]
  simp only[fP,e2 h1,e2 h2,hi,Bool.false_or,beq_self_eq_true,Bool.true_and,Bool.false_and,Bool.false_eq_true,if_false]
  by_cases hd:dst i=some k
  ·have:=x9 dst (L:=L) (k:=k) (tr:=t2) (fun y hy h=>hS y hy k hd h)
   simp[this,hd]
  ·simp only[hd,beq_iff_eq,if_false]
 ·rw[ss]
  simp only[mD,uG,ss,Option.map_map]
  congr 1
  funext e0
  simp only[Function.comp_def]
  rw[uH,uH]
  simp only[fO,e1 h1,e1 h2,hi,Bool.false_or,beq_self_eq_true,if_true,Bool.false_eq_true,if_false]
  by_cases hu:ed us r=none
  ·simp[hu]
  ·have:=x7 (L:=L) (r:=r) (tr:=t2) (fun y hy h=>hH y hy r hu h)
   obtain⟨e,he⟩:=Option.ne_none_iff_exists'.1 hu
   simp[this,he]
theorem Cg {L : Nat → Bool} {t1 t2 : Tr} {s : St} {r : Nat} (h1 : ∀ y ∈ t1, ed y.2.2 r ≠ none → L y.1 = true) (h2 : ∀ y ∈ t2, ed y.2.2 r ≠ none → L y.1 = false) :
    (bJ dst L (t1++t2) s).H[r]? =(bJ dst (fun _=>true) t1 s).H[r]?:=by
 rw[ss,ss,uH,x7 h2,x6 (L':=fun _=>true) (fun y hy h=>h1 y hy h)]
 simp
theorem Im {L : Nat → Bool} {t1 t2 : Tr} {s : St} {k : Nat} (h1 : ∀ y ∈ t1, dst y.1 = some k → L y.1 = true) (h2 : ∀ y ∈ t2, dst y.1 = some k → L y.1 = false) :
    bn (bJ dst L (t1++t2) s).t k=bn (bJ dst (fun _=>true) t1 s).t k:=by
 unfold bn
 rw[bS,bS,su,su,uI,x9 dst h2,x8 dst (L':=fun _=>true) (fun y hy h=>h1 y hy h)]
 simp
end
end Go.Proofs.YtpbpiehcchannaaGreatDoor

/-! Abstract values: a region that draws its order: one order is enough. Conditions: the premises of 'draw_of'. -/
namespace Go.Proofs.YtpbpiehcchannaaGreatDoor
set_option linter.unusedVariables false
set_option linter.unusedSimpArgs false
open Go.RowKit
def tmpsOf:List Operand→List Tmp
 | []=>[]
 | .tmp i::xs=>i::tmpsOf xs
 | _::xs=>tmpsOf xs
theorem Ci:∀{xs:List Operand}{i:Tmp},Operand.tmp i∈xs→i∈tmpsOf xs
 | x::xs,i,h=>by
  rcases List.mem_cons.1 h with h | h
  ·subst h;simp[tmpsOf]
  ·have:=Ci h
   cases x<;>simp[tmpsOf,this]
def jx(ops:Array Oper)(o:Oper):List Tmp:=tmpsOf (aQ o.op)++(match o.guard with
 | none=>[]
 | some (j,_)=>((ops[j]?).bind (·.dst)).toList)
def lK(o:Oper):Bool:=match o.op with
 | .call c=>match c.callee with
  | .value _=>true
  | _=>false
 | _=>false
def eW(p:Nat):Option Tmp→Option Nat
 | some d=>some (p+d)
 | none=>none
def kr(V:Nat→Option U)(bk:Bool)(own:Option Nat):Us→Prop
 | []=>True
 | (r,e)::us=>(match bk with
  | true=>own=some r∨V r≠none
  | false=>own=some r∨V r=some e)∧kr V bk own us
def Cj(V:Nat→Option U)(bk:Bool)(own:Option Nat)(s:St)(dst:Option Tmp)(K:St→Prop)(v:AV)(us:Us):Prop:=kr V bk own us∧K ⟨aV s.t dst v,aK s.H us⟩
def ya(tb:TypeId→Option TI)(p:Nat)(V:Nat→Option U)(bk:Bool)(o:Oper)(s:St)(K:St→Prop):Prop:=
 dH s.t (aQ o.op)∧mv tb p o (aZ s.t) V fun Φ v us=>Φ∧kr V bk (eW p o.dst) us∧K ⟨aV s.t o.dst v,aK s.H us⟩
def Ck(tb:TypeId→Option TI)(P:Program)(p:Nat)(V:Nat→Option U)(bk:Bool)(o:Oper)(s:St)(K:St→Prop):Prop:=match o.op with
 | .call c=>match c.callee with
  | .value f=>dH s.t (aQ o.op)∧eV P (aZ s.t f) (c.args.toList.map (aZ s.t)) V (Cj V bk (eW p o.dst) s o.dst K)
  | _=>ya tb p V bk o s K
 | .pick c a b=>nC s.t c a b fun Φ v=>Φ∧K ⟨aV s.t o.dst v,s.H⟩
 | _=>ya tb p V bk o s K
def Io(V:Nat→Option U)(bk:Bool)(G A:Prop)(own:Option Nat)(s:St)(dst:Option Tmp)(K:St→Prop)(Φ:Prop)(v:AV)(us:Us):Prop:=match us with
 | []=>(G→A∧Φ)∧us=[]∧K ⟨aV s.t dst (.gd G v),s.H⟩
 | _::_=>(G→(A∧Φ∧kr V bk own us)∧K ⟨aV s.t dst v,aK s.H us⟩)∧(¬G→K ⟨aV s.t dst (.gd False .any),s.H⟩)
def uJ(tb:TypeId→Option TI)(p:Nat)(V:Nat→Option U)(bk:Bool)(o:Oper)(s:St)(G:Prop)(K:St→Prop):Prop:=
 kP s.t (aQ o.op) (¬G∧K ⟨aV s.t o.dst (.gd False .any),s.H⟩) (mv tb p o (aZ s.t) V (Io V bk G (dH s.t (aQ o.op)) (eW p o.dst) s o.dst K))
def Cm(tb:TypeId→Option TI)(P:Program)(p:Nat)(V:Nat→Option U)(bk:Bool)(o:Oper)(s:St)(G:Prop)(K:St→Prop):Prop:=match o.op with
 | .call c=>match c.callee with
  | .value f=>(G→dH s.t (aQ o.op)∧eV P (aZ s.t f) (c.args.toList.map (aZ s.t)) V (Cj V bk (eW p o.dst) s o.dst K))∧(¬G→K ⟨aV s.t o.dst (.gd False .any),s.H⟩)
  | _=>uJ tb p V bk o s G K
 | .pick c a b=>kP s.t [c] (¬G∧K ⟨aV s.t o.dst (.gd False .any),s.H⟩) (nC s.t c a b fun Φ v=>(G→Φ)∧K ⟨aV s.t o.dst (.gd G v),s.H⟩)
 | _=>uJ tb p V bk o s G K
def yb(tb:TypeId→Option TI)(P:Program)(p:Nat)(all:List Oper)(V:Nat→Option U)(bk:Bool)(o:Oper)(s:St)(K:St→Prop):Prop:=match o.guard with
 | none=>Ck tb P p V bk o s K
 | some (j,b)=>ql all s.t j b fun G=>Cm tb P p V bk o s G K
section
variable {P:Program}
def qu(P:Program)(ops:Array Oper)(o:Oper)(t:List AV)(V:Nat→Option U)(post:AV→Us→Prop):Prop:=
 ∀(w0:World)(keep:Bs)(E:Env)(s:St)(a:Act)(w:World)(Q:Exit→Act→World→Prop),Rel w0 keep E s a w→(∀k∈jx ops o,bn s.t k=bn t k)→(∀(r:Nat)(e:U),V r=some e→s.H[r]? =some e)→
  (Region.wanted o (yielded ops a.tmps)=true∧o.wp P a w (fun a' w'=>∃v us E',post v us∧Rel w0 keep E' ⟨aV s.t o.dst v,aK s.H us⟩ a' w') Q)∨
  (Region.wanted o (yielded ops a.tmps)=false∧∃v us,post v us∧Rel w0 keep E ⟨aV s.t o.dst v,aK s.H us⟩ (a.put o.dst undef) w)
theorem Cn{ops:Array Oper}{o:Oper}{s:St}{t:List AV}(h:∀k∈jx ops o,bn s.t k=bn t k){x:Operand}(hx:x∈aQ o.op):aZ s.t x=aZ t x∧(dC s.t x↔dC t x):=by
 cases x with
 | tmp i=>
  have:=h i (List.mem_append_left _ (Ci hx))
  simp only[aZ,dC,this,and_self]
 | _=>exact⟨rfl,Iff.rfl⟩
theorem uK {ops : Array Oper} {o : Oper} {s : St} {t : List AV} {w0 : World} {keep : Bs} {E : Env} {a : Act} {w : World} (hR : Rel w0 keep E s a w) (h : ∀ k ∈ jx ops o, bn s.t k = bn t k) (hg : dH t (aQ o.op)) :
    ∀x∈aQ o.op,ah E w (aZ t x) (a.eval x):=by
 intro x hx
 obtain⟨h1,h2⟩:=Cn h hx
 rw[←h1]
 exact hR.gu (h2.2 (kO hg x hx))
theorem sv {w0 : World} {keep : Bs} {o : Oper} {a : Act} {w w' : World} {cv : Value} {E E' : Env} {s : St} {v : AV} {us : Us} {post : AV → Us → Prop} {Q : Exit → Act → World → Prop} (hR : Rel w0 keep E s a w) (h : wA P o a.eval w cv w') (hv : ah E' w' v cv) (ho : Out E E' w w' s.H us) (hp : post v us) :
    o.wp P a w (fun a' w'=>∃v us E',post v us∧Rel w0 keep E' ⟨aV s.t o.dst v,aK s.H us⟩ a' w') Q:=
 uq h ⟨v,us,E',hp,hR.put ho hv⟩
theorem Co {ops : Array Oper} {o : Oper} {c : Call} {f : Operand} (ho : o.op = .call c) (hc : c.callee = .value f) {t : List AV} {V : Nat → Option U} {K : AV → Us → Prop} (iS : dH t (aQ o.op)) (h : eV P (aZ t f) (c.args.toList.map (aZ t)) V K) :
    ∃post:AV→Us→Prop,(∀v us,post v us→K v us)∧∀(w0:World)(keep:Bs)(E:Env)(s:St)(a:Act)(w:World)(Q:Exit→Act→World→Prop),Rel w0 keep E s a w→(∀k∈jx ops o,bn s.t k=bn t k)→(∀(r:Nat)(e:U),V r=some e→s.H[r]? =some e)→
     o.wp P a w (fun a' w'=>∃v us E',post v us∧Rel w0 keep E' ⟨aV s.t o.dst v,aK s.H us⟩ a' w') Q:=by
 unfold eV at h
 obtain⟨fn,caps,hf,post,xR,iT⟩:=h
 refine⟨post,iT,fun w0 keep E s a w Q hR Ip hV=> ?_⟩
 have ay:=uK hR Ip iS
 rw[ho] at ay
 simp only[aQ,hc] at ay
 have ix:=ay f (by simp)
 rw[hf,ah] at ix
 obtain⟨cs,ix,cq⟩:=ix
 have cr:aw E w (c.args.toList.map (aZ t)) (c.args.toList.map a.eval):=rL _ (fun x hx=>ay x (by simp[hx]))
 exact BH ho hc ix (xR E s.H w _ hR.hr hV (lA cr cq)) fun v w'⟨x,us,E',hp,hv,ml⟩=>⟨x,us,E',hp,hR.put ml hv⟩
theorem Cp {ops : Array Oper} {o : Oper} {c x y : Operand} (ho : o.op = .pick c x y) {t : List AV} {K : Prop → AV → Prop} (h : nC t c x y K) : ∃ Φ v, K Φ v ∧ (Φ → ∀ {w0 : World} {keep : Bs} {E : Env} {s : St} {act : Act} {w : World}, Rel w0 keep E s act w → (∀ k ∈ jx ops o, bn s.t k = bn t k) →
    ∃q:Bool,act.eval c= .bool q∧ah E w v (if q then act.eval x else act.eval y)):=by
 have hm:∀{s:St},(∀k∈jx ops o,bn s.t k=bn t k)→∀z∈[c,x,y],aZ s.t z=aZ t z∧(dC s.t z↔dC t z):=fun{s} h z hz=>Cn h (by rw[ho];exact hz)
 unfold nC at h
 split at h
 rotate_left
 ·exact h.elim
 rename_i q hc
 have db:∀{w0:World}{keep:Bs}{E:Env}{s:St}{act:Act}{w:World},Rel w0 keep E s act w→(∀k∈jx ops o,bn s.t k=bn t k)→dC t c→act.eval c= .bool q:=by
  intro w0 keep E s act w hR hl hg
  obtain⟨h1,h2⟩:=hm hl c (by simp)
  have:=hR.gu (h2.2 hg)
  rw[h1,hc] at this
  exact aY this
 have eu:∀{w0:World}{keep:Bs}{E:Env}{s:St}{act:Act}{w:World},Rel w0 keep E s act w→(∀k∈jx ops o,bn s.t k=bn t k)→∀z∈[c,x,y],dC t z→ah E w (aZ t z) (act.eval z):=by
  intro w0 keep E s act w hR hl z hz hg
  obtain⟨h1,h2⟩:=hm hl z hz
  rw[←h1];exact hR.gu (h2.2 hg)
 split at h
 ·refine⟨_,_,h,fun p w0 keep E s act w hR hl=>⟨q,db hR hl p.1,?_⟩⟩
  rw[p.2.1];exact eu hR hl x (by simp) p.2.2
 ·rename_i vy hb
  split at h
  ·rename_i vx ha
   refine⟨_,_,h,fun p w0 keep E s act w hR hl=>⟨q,db hR hl p.1,?_⟩⟩
   obtain⟨p1,p2,p3⟩:=p
   have key:(if q then act.eval x else act.eval y)= .bool (if q then vx else vy):=by
    cases q with
    | true=>have:=eu hR hl x (by simp) (p2 rfl);rw[ha] at this;simpa using aY this
    | false=>have:=eu hR hl y (by simp) (p3 rfl);rw[hb] at this;simpa using aY this
   rw[key,ah]
   congr 1
   exact(BN ha hb).symm
  ·refine⟨_,_,h,fun p w0 keep E s act w hR hl=>⟨q,db hR hl p.1,?_⟩⟩
   rw[p.2.1];exact eu hR hl y (by simp) p.2.2
  ·exact h.elim
 ·exact h.elim
theorem Iq {ops : Array Oper} {o : Oper} {t : List AV} {j : Nat} {b : Bool} (ho : o.guard = some (j, b)) {K : Prop → Prop} (h : ql ops.toList t j b K) : ∃ G, K G ∧ ∀ {w0 : World} {keep : Bs} {E : Env} {s : St} {a : Act} {w : World}, Rel w0 keep E s a w → (∀ k ∈ jx ops o, bn s.t k = bn t k) →
    (G→Region.wanted o (yielded ops a.tmps)=true)∧(¬G→Region.wanted o (yielded ops a.tmps)=false):=by
 unfold ql at h
 split at h
 ·exact h.elim
 rename_i oj lF
 split at h
 ·exact h.elim
 rename_i d hd
 rw[qd] at lF
 have lG:(ops[j]?).bind (·.dst)=some d:=by
  have:ops[j]? =some oj:=by simpa using lF
  rw[this];exact hd
 have lL:d∈jx ops o:=by
  unfold jx
  rw[ho]
  exact List.mem_append_right _ (by simp[lG])
 split at h
 ·rename_i q hq
  refine⟨_,h,fun{w0 keep E s a w} hR hl=> ?_⟩
  have hv:=hR.get d
  rw[hl d lL,hq] at hv
  have hy:=ur lG (aY hv)
  exact⟨fun hG=>uu ho (by rw[hy,hG]),fun hG=>nD ho (by rw[hy];simpa using hG)⟩
 ·rename_i φ x hq
  split at h
  ·rename_i q
   refine⟨_,h,fun{w0 keep E s a w} hR hl=> ?_⟩
   have hv:=hR.get d
   rw[hl d lL,hq,ah] at hv
   by_cases my:φ
   ·have hy:=ur lG (aY (hv.1 my))
    exact⟨fun hG=>uu ho (by rw[hy,hG.2]),fun hG=>nD ho (by rw[hy];intro e;exact hG ⟨my,by simpa using e⟩)⟩
   ·have hy:=uv lG (hv.2 my)
    exact⟨fun hG=>absurd hG.1 my,fun hG=>nD ho (by rw[hy];simp)⟩
  ·refine⟨False,h.2,fun{w0 keep E s a w} hR hl=> ?_⟩
   have hv:=hR.get d
   rw[hl d lL,hq,ah] at hv
   have hy:=uv lG (hv.2 h.1)
   exact⟨fun hG=>hG.elim,fun hG=>nD ho (by rw[hy];simp)⟩
  ·exact h.elim
 ·exact h.elim
theorem Cq {tb : TypeId → Option TI} (aA : cj P tb) {p : Nat} {ops : Array Oper} {V : Nat → Option U} {bk : Bool} {o : Oper} {s0 : St} {K : St → Prop} (h : yb tb P p ops.toList V bk o s0 K) :
    ∃post:AV→Us→Prop,(∀v us,post v us→kr V bk (eW p o.dst) us∧K ⟨aV s0.t o.dst v,aK s0.H us⟩)∧qu P ops o s0.t V post∧(lK o=false→∃v us,post=fun v' gq=>v'=v∧gq=us):=by
 have one : ∀ {v : AV} {us : Us}, kr V bk (eW p o.dst) us → K ⟨aV s0.t o.dst v, aK s0.H us⟩ → qu P ops o s0.t V (fun v' gq => v' = v ∧ gq = us) →
     ∃post:AV→Us→Prop,(∀v us,post v us→kr V bk (eW p o.dst) us∧K ⟨aV s0.t o.dst v,aK s0.H us⟩)∧qu P ops o s0.t V post∧(lK o=false→∃v us,post=fun v' gq=>v'=v∧gq=us):=by
  intro v us h1 h2 h3
  exact⟨_,fun v' gq⟨e1,e2⟩=>by subst e1;subst e2;exact⟨h1,h2⟩,h3,fun _=>⟨v,us,rfl⟩⟩
 unfold yb at h
 split at h
 ·rename_i hg
  have yc:∀tm,Region.wanted o (yielded ops tm)=true:=fun tm=>by unfold Region.wanted;simp only[hg]
  have sw:ya tb p V bk o s0 K→∃post:AV→Us→Prop,(∀v us,post v us→kr V bk (eW p o.dst) us∧K ⟨aV s0.t o.dst v,aK s0.H us⟩)∧qu P ops o s0.t V post∧(lK o=false→∃v us,post=fun v' gq=>v'=v∧gq=us):=by
   rintro⟨iS,h⟩
   obtain⟨Φ,v,us,⟨dF,eJ,hK⟩,hs⟩:=uj aA h
   refine one eJ hK fun w0 keep E s a w Q hR hl hV=> .inl ⟨yc _,?_⟩
   obtain⟨cv,w',E',h1,h2,h3⟩:=hs dF E s.H w a.eval hR.hr hV (uK hR hl iS)
   exact sv hR h1 h2 h3 ⟨rfl,rfl⟩
  unfold Ck at h
  split at h
  ·rename_i c eu
   split at h
   ·rename_i f hc
    obtain⟨post,iT,hex⟩:=Co (ops:=ops) eu hc h.1 h.2
    refine⟨post,iT,fun w0 keep E s a w Q hR hl hV=> .inl ⟨yc _,hex w0 keep E s a w Q hR hl hV⟩,fun fK=> ?_⟩
    simp[lK,eu,hc] at fK
   ·exact sw h
  ·rename_i c x y eu
   obtain⟨Φ,v,⟨dF,hK⟩,hv⟩:=Cp (ops:=ops) eu h
   refine one (us:=[]) trivial hK fun w0 keep E s a w Q hR hl hV=> .inl ⟨yc _,?_⟩
   obtain⟨q,h1,h2⟩:=hv dF hR hl
   exact sv hR (.inl (xQ eu h1 w)) h2 (Out.same hR.hr) ⟨rfl,rfl⟩
  ·exact sw h
 ·rename_i j b hg
  obtain⟨G,h,hw⟩:=Iq hg h
  have sw:uJ tb p V bk o s0 G K→∃post:AV→Us→Prop,(∀v us,post v us→kr V bk (eW p o.dst) us∧K ⟨aV s0.t o.dst v,aK s0.H us⟩)∧qu P ops o s0.t V post∧(lK o=false→∃v us,post=fun v' gq=>v'=v∧gq=us):=by
   intro h
   unfold uJ at h
   rcases oD h with⟨hG,h⟩ | h
   ·exact one (us:=[]) trivial h fun w0 keep E s a w Q hR hl hV=> .inr ⟨(hw hR hl).2 hG,_,_,⟨rfl,rfl⟩,hR.put (Out.same hR.hr) (km (fun h=>h))⟩
   obtain⟨Φ,v,us,h,hs⟩:=uj aA h
   cases us with
   | nil=>
    obtain⟨dF,_,hK⟩:=h
    refine one (us:=[]) trivial hK fun w0 keep E s a w Q hR hl hV=> ?_
    obtain⟨gY,gp⟩:=hw hR hl
    by_cases hG:G
    ·obtain⟨iS,dF⟩:=dF hG
     obtain⟨cv,w',E',h1,h2,h3⟩:=hs dF E s.H w a.eval hR.hr hV (uK hR hl iS)
     exact .inl ⟨gY hG,sv hR h1 (uw hG h2) h3 ⟨rfl,rfl⟩⟩
    ·exact .inr ⟨gp hG,_,_,⟨rfl,rfl⟩,hR.put (Out.same hR.hr) (km hG)⟩
   | cons u us=>
    by_cases hG:G
    ·obtain⟨⟨iS,dF,eJ⟩,hK⟩:=h.1 hG
     refine one eJ hK fun w0 keep E s a w Q hR hl hV=> .inl ⟨(hw hR hl).1 hG,?_⟩
     obtain⟨cv,w',E',h1,h2,h3⟩:=hs dF E s.H w a.eval hR.hr hV (uK hR hl iS)
     exact sv hR h1 h2 h3 ⟨rfl,rfl⟩
    ·exact one (us:=[]) trivial (h.2 hG) fun w0 keep E s a w Q hR hl hV=> .inr ⟨(hw hR hl).2 hG,_,_,⟨rfl,rfl⟩,hR.put (Out.same hR.hr) (km (fun h=>h))⟩
  unfold Cm at h
  split at h
  ·rename_i c eu
   split at h
   ·rename_i f hc
    by_cases hG:G
    ·obtain⟨iS,h⟩:=h.1 hG
     obtain⟨post,iT,hex⟩:=Co (ops:=ops) eu hc iS h
     refine⟨post,iT,fun w0 keep E s a w Q hR hl hV=> .inl ⟨(hw hR hl).1 hG,hex w0 keep E s a w Q hR hl hV⟩,fun fK=> ?_⟩
     simp[lK,eu,hc] at fK
    ·exact one (us:=[]) trivial (h.2 hG) fun w0 keep E s a w Q hR hl hV=> .inr ⟨(hw hR hl).2 hG,_,_,⟨rfl,rfl⟩,hR.put (Out.same hR.hr) (km (fun h=>h))⟩
   ·exact sw h
  ·rename_i c x y eu
   rcases oD h with⟨hG,h⟩ | h
   ·exact one (us:=[]) trivial h fun w0 keep E s a w Q hR hl hV=> .inr ⟨(hw hR hl).2 hG,_,_,⟨rfl,rfl⟩,hR.put (Out.same hR.hr) (km (fun h=>h))⟩
   obtain⟨Φ,v,⟨dF,hK⟩,hv⟩:=Cp (ops:=ops) eu h
   refine one (us:=[]) trivial hK fun w0 keep E s a w Q hR hl hV=> ?_
   obtain⟨gY,gp⟩:=hw hR hl
   by_cases hG:G
   ·obtain⟨q,h1,h2⟩:=hv (dF hG) hR hl
    exact .inl ⟨gY hG,sv hR (.inl (xQ eu h1 w)) (uw hG h2) (Out.same hR.hr) ⟨rfl,rfl⟩⟩
   ·exact .inr ⟨gp hG,_,_,⟨rfl,rfl⟩,hR.put (Out.same hR.hr) (km hG)⟩
  ·exact sw h
end
end Go.Proofs.YtpbpiehcchannaaGreatDoor
