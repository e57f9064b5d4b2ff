/- Walk of lintellaw21: KeepNil. Conditions: none. -/
import Derived.Test.YtpbpiehcchannaaGreatDoorJKbb
namespace Go.Proofs.YtpbpiehcchannaaGreatDoor
open Go.RowKit
set_option linter.unusedVariables false
set_option linter.unusedSimpArgs false
set_option maxRecDepth 100000
set_option maxHeartbeats 1500000
theorem opA_on {P : Nat → Prop} (o : OpV) : onAs P (opA o) := by
 unfold opA varA
 repeat (first | exact trivial | refine And.intro trivial ?_)
theorem varA_asL {rows : List Ent} {x x0 : AV} (h : As rows x x0) (v : VarV) : AsL rows (varA x v) (varA x0 v) := by
 unfold varA
 repeat (first | exact asL_nil | refine asL_cons as_val ?_)
 exact asL_cons h asL_nil
theorem varZ_ok : varZ.Ok := ⟨by decide, by decide, by decide, by unfold Tm.ok varZ; decide, by decide, by decide⟩
theorem samez_vc : Spec Tryz.prog 49 [.agg (varA (.val (.slice none 0 0)) varZ), .agg (varA (.val (.slice none 0 0)) varZ)] [] (pms (.val (.bool true)) [] []) := by
 have h := samevar_vc varZ varZ varZ_ok varZ_ok 0 0
 rw [(sameV_iff varZ_ok varZ_ok).2 rfl] at h
 exact spec_ro h trivial trivial (rows := []) (asL_cons (as_agg (varA_asL as_nil _)) (asL_cons (as_agg (varA_asL as_nil _)) asL_nil))
theorem law_keepnil (v : VarV) (hv : v.Ok) (x : Int) (hx : 0 ≤ x ∧ x ≤ 255) : Spec Tryz.prog 10 [.agg (varA (.bs 0 v.d) v), .val (.int .u8 x)] [] (pms (.val (.bool true)) [] []) := by
 refine spec_entry tbOk Tryz.func10 rfl Tryz.ntmps10 Tryz.results10 ?_
 refine gg (k := ?_)
 refine cmksW (vast21_one ⟨0, v, 0⟩ (fun _ => opA ⟨0, v, 0⟩) rfl 1) Tryz.call46 (hr2 := ⟨fun _ => opA_on _, trivial⟩) 1 [24] [0] [] ?_ ?_
 ·refine ⟨⟨fun _ => opA_on _, _, rfl, WeakE.row 1 59 rfl⟩, trivial⟩
 cases hvast : vastO [⟨0, v, 0⟩] with
 | true =>
  refine gg (k := ?_)
  refine cmks (works21_vc) Tryz.call40 0 [] [] [] ?_
  refine gg (k := ?_)
  exact ⟨_, rfl, rfl, trivial⟩
 | false =>
  refine gg (k := ?_)
  refine cmks (kopen_nil) Tryz.call58 0 [] [] [] ?_
  refine gg (k := ?_)
  refine cmks (kget_nil v.nm v.g) Tryz.call44 0 [] [] [] ?_
  refine gg (k := ?_)
  refine cmks (kput_nil 0 v) Tryz.call59 0 [] [] [] ?_
  refine gg (k := ?_)
  refine cmks (kdrop_nil v.nm v.g) Tryz.call60 0 [] [] [] ?_
  refine gg (k := ?_)
  refine cmks (knext_nil v.nm v.g) Tryz.call45 0 [] [] [] ?_
  refine gg (k := ?_)
  refine cmks (kmark_nil) Tryz.call47 0 [] [] [] ?_
  refine gg (k := ?_)
  refine cmks (kset_nil x) Tryz.call61 0 [] [] [] ?_
  refine gg (k := ?_)
  refine cmks (kused_nil) Tryz.call62 0 [] [] [] ?_
  refine ggO (k := ?_)
  refine cmks (samez_vc) Tryz.call49 0 [] [] [] ?_
  refine ggO (k := ?_)
  refine cmks (kroom_nil) Tryz.call52 0 [] [] [] ?_
  refine ggO (k := ?_)
  refine cmks (works21_vc) Tryz.call40 0 [] [] [] ?_
  refine ggO (k := ?_)
  exact ⟨_, rfl, rfl, trivial⟩
end Go.Proofs.YtpbpiehcchannaaGreatDoor
