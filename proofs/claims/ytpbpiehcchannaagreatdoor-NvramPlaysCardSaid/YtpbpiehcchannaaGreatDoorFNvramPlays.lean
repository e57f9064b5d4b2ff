/- NvramPlays: the law NvramPlays returns true whatever flash and calls are handed in, and its arguments read as before. Conditions: none. -/
import Derived.Test.YtpbpiehcchannaaGreatDoorJHl
import Derived.Test.YtpbpiehcchannaaGreatDoorJAd
import Derived.Test.YtpbpiehcchannaaGreatDoorCards
import Derived.Test.YtpbpiehcchannaaGreatDoorTie
import Derived.SizedLaws
import Derived.LaidMore
import Derived.Stop.Joined
import Derived.SevenTiedAt
namespace Go.Proofs.YtpbpiehcchannaaGreatDoor.nvramPlays
open Go.ChangeShapes Go.WideShapes Go.ChangeAt Go.RowKit
open Go.ChangeMaps (open_string shut_string)
set_option linter.unusedVariables false
theorem own:ownKnob Tryz.prog.godebug=none:=by kernel_rfl
theorem laidOut:laidOutB Tryz.prog=true:=by kernel_rfl
theorem PG(os:Os)(args:Array Value):laidMetH Tryz.prog rb ((World.doorLaid Tryz.prog 400 os).forCall (fun _ _=>0) ⟨#[],args,[]⟩).memory:=
  laidMetH_of_parts3 (fuel:=8) (laidMet_of_run' 8 (by kernel_rfl) (by kernel_rfl)) (by kernel_rfl) (by kernel_rfl)
set_option maxRecDepth 100000 in
theorem lifted (os : Os) (started : os.Started) (H : Type) (enc : TypeId × Value → H) :
    ReturnsInHanded {} Tryz.checked os 6 .any (fun w args => (Rows.nvramPlaysSpec.pre enc Tryz.prog Tryz.f6 [] false w args ∧ laidMetH Tryz.prog rb w) ∧ sizedMet enc Tryz.prog Tryz.f6 (OpenSpec.ofChange Rows.nvramPlaysSpec) false w args)
      (Rows.nvramPlaysSpec.post enc Tryz.prog Tryz.f6 false true false false):=by
  refine returnsInHanded_of_change_and (C := Tryz.checked) (X := fun w _ => laidMetH Tryz.prog rb w) (fun _ _ _ hh h => h.of_heap hh) own started (by kernel_rfl) Tryz.func6
    (ChangeSpec.witness_shaped (enc:=enc) (C:=Tryz.checked) (os:=os) (X:=fun w _=>laidMetH Tryz.prog rb w) false (World.doorLaid Tryz.prog 400 os) #[.int .i64 0,.int .i64 0,.slice none 0 0] 8 rfl (World.shaped_of_RefB (by kernel_rfl) (by kernel_rfl)) (by kernel_rfl) (by kernel_rfl) (by kernel_rfl) (PG os _)) ?_
  intro W base args ds gs before Gs hW _ iQ hL _
  have jb:∀(j:Nat) t v,Tryz.f6.params[j]? =some t→args[j]? =some v→Value.okWide Tryz.prog W .any base t v:=Gs
  have hz:(DataW.weightsEach Tryz.prog (Tryz.f6.params.toList++Rows.nvramPlaysSpec.plain.varTypes Tryz.prog) (ds++gs)).all (· ≤reachBytes)=true:=iQ
  have PH:=hW
  obtain⟨p,q,Gt,hV,rfl,FZ,bW⟩:=hW
  have hA:DataW.TrodAll enc Tryz.prog W 0 (fun _=>true) true Tryz.f6.params.toList args.toList ds p:=Gt
  rw[Tryz.params6] at hA jb hz
  obtain⟨v0,Qz,d0,QA,p0,q0,cr,rfl,rfl,h0,r0⟩:=trodAll_cons hA
  obtain⟨v1,QB,d1,QC,p1,q1,rfl,rfl,rfl,h1,r1⟩:=trodAll_cons r0
  obtain⟨v2,MM,d2,QD,p2,q2,rfl,rfl,rfl,h2,r2⟩:=trodAll_cons r1
  obtain⟨rfl,rfl,rfl⟩:=trodAll_nil r2
  obtain rfl:args= #[v0,v1,v2]:=by cases args;simp_all
  obtain⟨rfl,rfl⟩:=trodVars_none hV
  have k0:=h0
  have PI:∀x∈p0,x.block<W.heap.size:=by obtain⟨m,hm⟩:=k0;exact DataW.trod_lt m _ _ _ hm
  have k1:=h1
  have PJ:∀x∈p1,x.block<W.heap.size:=by obtain⟨m,hm⟩:=k1;exact DataW.trod_lt m _ _ _ hm
  have k2:=h2
  have PK:∀x∈p2,x.block<W.heap.size:=by obtain⟨m,hm⟩:=k2;exact DataW.trod_lt m _ _ _ hm
  obtain⟨a0,rfl,rfl,rfl,w0⟩:=open_int Tryz.underlying3 (jb 0 3 v0 rfl rfl) h0
  obtain⟨a1,rfl,rfl,rfl,w1⟩:=open_int Tryz.underlying3 (jb 1 3 v1 rfl rfl) h1
  obtain⟨a2,w2⟩:=LA (jb 2 22 v2 rfl rfl) h2 (fun n hn=>of_decide_eq_true (List.all_eq_true.1 hz n (DataW.weights_mem_each (j:=2) (t:=22) rfl rfl n hn)))
  clear Gt Gs iQ
  refine(LF W hL a0 w0 a1 w1 v2 a2 w2).mono fun e W'⟨he,wq⟩=> ?_
  subst he
  exact⟨_,rfl,_,_,_,[],_,[],PH,trodAll_mk1 (shut_bool Tryz.underlying4 _),(trodAll_cons_mk (Below.trod laidOut (by kernel_rfl) (of_decide_eq_true (by kernel_rfl)) k0 wq PI) (trodAll_cons_mk (Below.trod laidOut (by kernel_rfl) (of_decide_eq_true (by kernel_rfl)) k1 wq PJ) (trodAll_cons_mk (Below.trod laidOut (by kernel_rfl) (of_decide_eq_true (by kernel_rfl)) k2 wq PK) trodAll_mk0))),rfl,wq.frame _,fun h=>by cases h⟩
theorem over:Rows.nvramPlaysRow.holds Tryz.pinned (OpenSpec.ofChange Rows.nvramPlaysSpec):=
  OpenClaim.holds_of_wide 6 Tryz.f6 rfl rfl rfl rfl rfl rfl rfl ⟨rfl, rfl, rfl, rfl, rfl⟩ rfl rfl rfl rfl rfl (by kernel_rfl) Tryz.func6 (by kernel_rfl)
    (of_decide_eq_true (by kernel_rfl)) (by unfold Func.isWrapper;first | (rw[if_pos (by decide+kernel)];kernel_rfl) | (rw[if_neg (by decide+kernel)];exact⟨rfl,rfl⟩))
    (fun os started H enc _=>lifted os started H enc)
theorem proved:Rows.NvramPlaysCardSaid:=
  Claim7.holds_tied_plain_at .later [] [.data] true (true, "070bf280a40fa8b0f63cb5eb5f3557e491aa034716a6c05bdce81c18d7524132") false
    over (fun _ h=>by cases h) (by kernel_rfl) (fun _ h=>by cases h) nvramPlays_row_tie rfl ⟨rfl,rfl⟩ (by kernel_rfl) rfl
    (fun f fn hf PL=>by
      obtain rfl:f=6:=Option.some.inj ((show Tryz.prog.funcNamed "lintel/lintellaw09.NvramPlays" =some 6 by kernel_rfl).symm.trans hf) |>.symm
      obtain rfl:fn=Tryz.f6:=(Option.some.inj (Tryz.func6.symm.trans PL)).symm
      exact⟨by kernel_rfl,fun j t ht=>by
        rw[Tryz.params6] at ht
        have hm:t∈[3,3,22]:=by simpa using Array.mem_of_getElem? ht
        have eI:([3,3,22].all fun u=> !Tryz.prog.wantsStandIn u)=true:=by kernel_rfl
        exact(show Tryz.prog.wantsStandIn t=false by simpa using List.all_eq_true.1 eI t hm)⟩)
    (by kernel_rfl)
#print axioms proved
end Go.Proofs.YtpbpiehcchannaaGreatDoor.nvramPlays
