/- Walks of keep: no book; lintellaw21: vast, SameVar, begun, works. Walks of lintellaw21: vast, SameVar, begun. Walks of lintellaw21: begun, works. Conditions: the premises of each law. -/
import Derived.Test.YtmjpbmcbcppkfaaGreatDoorJKi
namespace Go.Proofs.YtmjpbmcbcppkfaaGreatDoor
open Go.RowKit
set_option linter.unusedVariables false
set_option linter.unusedSimpArgs false
set_option maxRecDepth 100000
set_option maxHeartbeats 1500000
end Go.Proofs.YtmjpbmcbcppkfaaGreatDoor
namespace Go.Proofs.YtmjpbmcbcppkfaaGreatDoor
open Go.RowKit
set_option linter.unusedVariables false
set_option linter.unusedSimpArgs false
set_option maxRecDepth 100000
set_option maxHeartbeats 1500000
structure OpV where
 K : Int
 v : VarV
 x : Int
structure OpV.Ok (o : OpV) : Prop where
 K : I64 o.K
 v : o.v.Ok
 x : 0 ≤ o.x ∧ o.x ≤ 255
def sameV (a b : VarV) : Bool := decide (a.nm.data.toList = b.nm.data.toList) && eqVs ((List.range 16).map fun i => bv (a.g.getD i 0)) ((List.range 16).map fun i => bv (b.g.getD i 0)) && decide (a.at_ = b.at_) &&
 eqVs [Value.int .u16 a.t.y, .int .u8 a.t.m, .int .u8 a.t.d, .int .u8 a.t.h, .int .u8 a.t.mi, .int .u8 a.t.s] [Value.int .u16 b.t.y, .int .u8 b.t.m, .int .u8 b.t.d, .int .u8 b.t.h, .int .u8 b.t.mi, .int .u8 b.t.s] &&
 eqVs ((List.range 32).map fun i => bv (a.ow.getD i 0)) ((List.range 32).map fun i => bv (b.ow.getD i 0)) && decide ((strOf a.d).data.toList = (strOf b.d).data.toList)
theorem eqVs_bytes : ∀ (l m : List UInt8), eqVs (l.map bv) (m.map bv) = decide (l = m)
 | [], [] => rfl
 | [], _ :: _ => rfl
 | _ :: _, [] => rfl
 | x :: l, y :: m => by
  simp only [List.map_cons, eqVs, eqVs_bytes l m, bv, eqV]
  rw [Bool.eq_iff_iff]
  simp only [Bool.and_eq_true, decide_eq_true_eq, List.cons.injEq]
  exact ⟨fun h => ⟨UInt8.toNat_inj.1 (by exact_mod_cast h.1), h.2⟩, fun h => ⟨by rw [h.1], h.2⟩⟩
theorem range_getD (l : List UInt8) (n : Nat) (h : l.length = n) : ((List.range n).map fun i => bv (l.getD i 0)) = l.map bv := by
 apply List.ext_getElem
 ·simp [h]
 ·intro i h1 h2
  simp only [List.length_map, List.length_range] at h1
  simp [List.getD_eq_getElem?_getD, h1, h]
theorem sameV_iff {a b : VarV} (ha : a.Ok) (hb : b.Ok) : sameV a b = true ↔ a = b := by
 unfold sameV
 rw [range_getD a.g 16 ha.g, range_getD b.g 16 hb.g, range_getD a.ow 32 ha.ow, range_getD b.ow 32 hb.ow, eqVs_bytes, eqVs_bytes]
 obtain ⟨an, ag, aa, ⟨ty, tm, td, th, ti, ts⟩, ao, ad⟩ := a
 obtain ⟨bn, bg, ba, ⟨uy, um, ud, uh, ui, us⟩, bo, bd⟩ := b
 simp only [eqVs, eqV, Bool.and_eq_true, decide_eq_true_eq, Bool.and_true, strOf_data, List.toList_toArray, VarV.mk.injEq, Tm.mk.injEq]
 constructor
 ·rintro ⟨⟨⟨⟨⟨h1, h2⟩, h3⟩, h4⟩, h5⟩, h6⟩
  have e1 : an = bn := by rw [← strOf_toList an, h1, strOf_toList]
  exact ⟨e1, h2, h3, h4, h5, of_decide_eq_true h6⟩
 ·rintro ⟨rfl, rfl, rfl, h4, rfl, rfl⟩
  exact ⟨⟨⟨⟨⟨rfl, rfl⟩, rfl⟩, h4⟩, rfl⟩, by simp⟩
theorem samevar_vc (a b : VarV) (ha : a.Ok) (hb : b.Ok) (za zb : Nat) : Spec Tryz.prog 18 [.agg (varA (.bs za a.d) a), .agg (varA (.bs zb b.d) b)] [] (pms (.val (.bool (sameV a b))) [] []) := by
 refine spec_entry tbOk Tryz.func18 rfl Tryz.ntmps18 Tryz.results18 ?_
 unfold varA
 obtain ⟨⟨a1, a2⟩, ⟨b1, b2⟩, ⟨c1, c2⟩, ⟨d1, d2⟩, ⟨e1, e2⟩, f1, f2⟩ := id ha.t
 obtain ⟨⟨A1, A2⟩, ⟨B1, B2⟩, ⟨C1, C2⟩, ⟨D1, D2⟩, ⟨E1, E2⟩, F1, F2⟩ := id hb.t
 refine ggO (k := ?_)
 exact ⟨_, rfl, rfl, trivial⟩
end Go.Proofs.YtmjpbmcbcppkfaaGreatDoor
namespace Go.Proofs.YtmjpbmcbcppkfaaGreatDoor
open Go.RowKit
set_option linter.unusedVariables false
set_option linter.unusedSimpArgs false
set_option maxRecDepth 100000
set_option maxHeartbeats 1500000
end Go.Proofs.YtmjpbmcbcppkfaaGreatDoor
