/- KeepLasts: a book whose flash loses its power in a call has, when it is opened again, the variables from before that call or those of the call done whole. Conditions: none. -/
import Derived.Test.YtpbpiehcchannaaGreatDoorJKqm
import Derived.Test.YtpbpiehcchannaaGreatDoorJAd
import Derived.Test.YtpbpiehcchannaaGreatDoorCards
import Derived.Test.YtpbpiehcchannaaGreatDoorTie
import Derived.SizedLaws
import Derived.LaidMore
import Derived.Stop.Joined
import Derived.SevenTiedAt
namespace Go.Proofs.YtpbpiehcchannaaGreatDoor.keepLasts
open Go.ChangeShapes Go.WideShapes Go.ChangeAt Go.RowKit
open Go.ChangeMaps (open_string shut_string)
set_option linter.unusedVariables false

theorem own:ownKnob Tryz.prog.godebug=none:=by kernel_rfl
theorem laidOut:laidOutB Tryz.prog=true:=by kernel_rfl
/-- The door's own heap meets the condition. -/
theorem UA(os:Os)(args:Array Value):laidMetH Tryz.prog tp ((World.doorLaid Tryz.prog 400 os).forCall (fun _ _=>0) ⟨#[],args,[]⟩).memory:=
  laidMetH_of_parts3 (fuel:=8) (laidMet_of_run' 8 (by kernel_rfl) (by kernel_rfl)) (by kernel_rfl) (by kernel_rfl)
set_option maxRecDepth 100000 in
theorem lifted (os : Os) (started : os.Started) (H : Type) (enc : TypeId × Value → H) :
    ReturnsInHanded {} Tryz.checked os 11 .any (fun w args => (Rows.keepLastsSpec.pre enc Tryz.prog Tryz.f11 [] false w args ∧ laidMetH Tryz.prog tp w) ∧ sizedMet enc Tryz.prog Tryz.f11 (OpenSpec.ofChange Rows.keepLastsSpec) false w args)
      (Rows.keepLastsSpec.post enc Tryz.prog Tryz.f11 false true false false):=by
  refine returnsInHanded_of_change_and (C := Tryz.checked) (X := fun w _ => laidMetH Tryz.prog tp w) (fun _ _ _ hh h => h.of_heap hh) own started (by kernel_rfl) Tryz.func11
    (ChangeSpec.witness_shaped (enc:=enc) (C:=Tryz.checked) (os:=os) (X:=fun w _=>laidMetH Tryz.prog tp w) false (World.doorLaid Tryz.prog 400 os) #[.int .u16 0,.slice none 0 0,.slice none 0 0] 8 rfl (World.shaped_of_RefB (by kernel_rfl) (by kernel_rfl)) (by kernel_rfl) (by kernel_rfl) (by kernel_rfl) (UA os _)) ?_
  intro W base args ds gs before Ka hW _ jW hL _
  have hval:∀(j:Nat) t v,Tryz.f11.params[j]? =some t→args[j]? =some v→Value.okWide Tryz.prog W .any base t v:=Ka
  have hz:(DataW.weightsEach Tryz.prog (Tryz.f11.params.toList++Rows.keepLastsSpec.plain.varTypes Tryz.prog) (ds++gs)).all (· ≤reachBytes)=true:=jW
  have UB:=hW
  obtain⟨p,q,Kb,hV,rfl,HD,dK⟩:=hW
  have hA:DataW.TrodAll enc Tryz.prog W 0 (fun _=>true) true Tryz.f11.params.toList args.toList ds p:=Kb
  rw[Tryz.params11] at hA hval hz
  obtain⟨v0,Vl,d0,Vm,p0,q0,cg,rfl,rfl,h0,r0⟩:=trodAll_cons hA
  obtain⟨v1,Vn,d1,Vo,p1,q1,rfl,rfl,rfl,h1,r1⟩:=trodAll_cons r0
  obtain⟨v2,rh,d2,Vp,p2,q2,rfl,rfl,rfl,h2,r2⟩:=trodAll_cons r1
  obtain⟨rfl,rfl,rfl⟩:=trodAll_nil r2
  obtain rfl:args= #[v0,v1,v2]:=by cases args;simp_all
  obtain⟨rfl,rfl⟩:=trodVars_none hV
  have k0:=h0
  have UC:∀x∈p0,x.block<W.heap.size:=by obtain⟨m,hm⟩:=k0;exact DataW.trod_lt m _ _ _ hm
  have k1:=h1
  have UD:∀x∈p1,x.block<W.heap.size:=by obtain⟨m,hm⟩:=k1;exact DataW.trod_lt m _ _ _ hm
  have k2:=h2
  have UE:∀x∈p2,x.block<W.heap.size:=by obtain⟨m,hm⟩:=k2;exact DataW.trod_lt m _ _ _ hm
  obtain⟨a0,rfl,rfl,rfl,w0⟩:=open_int Tryz.underlying57 (hval 0 57 v0 rfl rfl) h0
  obtain⟨a1,w1⟩:=S4 (hval 1 92 v1 rfl rfl) h1 (fun n hn=>of_decide_eq_true (List.all_eq_true.1 hz n (DataW.weights_mem_each (j:=1) (t:=92) rfl rfl n hn)))
  obtain⟨a2,w2⟩:=Th (hval 2 117 v2 rfl rfl) h2 (fun n hn=>of_decide_eq_true (List.all_eq_true.1 hz n (DataW.weights_mem_each (j:=2) (t:=117) rfl rfl n hn)))
  clear Kb Ka jW
  refine(Ti W hL a0 w0 v1 a1 w1 v2 a2 w2).mono fun e W'⟨he,y8⟩=> ?_
  subst he
  exact⟨_,rfl,_,_,_,[],_,[],UB,trodAll_mk1 (shut_bool Tryz.underlying4 _),(trodAll_cons_mk (Below.trod laidOut (by kernel_rfl) (of_decide_eq_true (by kernel_rfl)) k0 y8 UC) (trodAll_cons_mk (Below.trod laidOut (by kernel_rfl) (of_decide_eq_true (by kernel_rfl)) k1 y8 UD) (trodAll_cons_mk (Below.trod laidOut (by kernel_rfl) (of_decide_eq_true (by kernel_rfl)) k2 y8 UE) trodAll_mk0))),rfl,y8.frame _,fun h=>by cases h⟩

theorem over:Rows.keepLastsRow.holds Tryz.pinned (OpenSpec.ofChange Rows.keepLastsSpec):=
  OpenClaim.holds_of_wide 11 Tryz.f11 rfl rfl rfl rfl rfl rfl rfl ⟨rfl, rfl, rfl, rfl, rfl⟩ rfl rfl rfl rfl rfl (by kernel_rfl) Tryz.func11 (by kernel_rfl)
    (of_decide_eq_true (by kernel_rfl)) (by unfold Func.isWrapper;first | (rw[if_pos (by decide+kernel)];kernel_rfl) | (rw[if_neg (by decide+kernel)];exact⟨rfl,rfl⟩))
    (fun os started H enc _=>lifted os started H enc)

/-- THE STATEMENT: THE TIED CARD -/
theorem proved:Rows.KeepLastsCardSaid:=
  Claim7.holds_tied_plain_at .later [] [.data] true (true, "070bf280a40fa8b0f63cb5eb5f3557e491aa034716a6c05bdce81c18d7524132") false
    over (fun _ h=>by cases h) (by kernel_rfl) (fun _ h=>by cases h) keepLasts_row_tie rfl ⟨rfl,rfl⟩ (by kernel_rfl) rfl
    (fun f fn hf UF=>by
      obtain rfl:f=11:=Option.some.inj ((show Tryz.prog.funcNamed "lintel/lintellaw21.KeepLasts" =some 11 by kernel_rfl).symm.trans hf) |>.symm
      obtain rfl:fn=Tryz.f11:=(Option.some.inj (Tryz.func11.symm.trans UF)).symm
      exact⟨by kernel_rfl,fun j t ht=>by
        rw[Tryz.params11] at ht
        have hm:t∈[57,92,117]:=by simpa using Array.mem_of_getElem? ht
        have fF:([57,92,117].all fun u=> !Tryz.prog.wantsStandIn u)=true:=by kernel_rfl
        exact(show Tryz.prog.wantsStandIn t=false by simpa using List.all_eq_true.1 fF t hm)⟩)
    (by kernel_rfl)
#print axioms proved
end Go.Proofs.YtpbpiehcchannaaGreatDoor.keepLasts
