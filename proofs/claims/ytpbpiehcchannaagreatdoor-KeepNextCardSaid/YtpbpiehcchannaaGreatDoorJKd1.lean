/- lintellaw21: ahead; what Next tells of any name. Conditions: none. -/
import Derived.Test.YtpbpiehcchannaaGreatDoorJKo2
import Derived.Test.YtpbpiehcchannaaGreatDoorJKbk
namespace Go.Proofs.YtpbpiehcchannaaGreatDoor
open Go.RowKit
set_option linter.unusedVariables false
set_option linter.unusedSimpArgs false
set_option maxRecDepth 100000
set_option maxHeartbeats 1500000
theorem nextA_first (beh : List UInt8) : ∀ {V : List VarV}, (∀ v ∈ V, VOk v) →
    (∃ j, j < V.length ∧ nextA (V.map kV) beh = .tup [.val (.string (V.getD j varZ).nm), .agg (bytesA 16 (V.getD j varZ).g), .val (.int .i64 0)] ∧ ltB beh (kV (V.getD j varZ)) = true ∧ ∀ i, i < j → ltB beh (kV (V.getD i varZ)) = false)
    ∨ (nextA (V.map kV) beh = .tup [.val (.string ByteArray.empty), .agg (bytesA 16 []), .val (.int .i64 3)] ∧ ∀ i, i < V.length → ltB beh (kV (V.getD i varZ)) = false)
 | [], _ => .inr ⟨rfl, fun i h => by simp at h⟩
 | v :: V, hV => by
  have hv := hV v (List.mem_cons_self ..)
  have hN : nextK ((v :: V).map kV) beh = if ltB beh (kV v) = true then some (kV v) else nextK (V.map kV) beh := by
   unfold nextK
   rw [List.map_cons, List.find?_cons, kV_vk hv, Bool.and_true]
   cases ltB beh (kV v) <;> rfl
  cases h : ltB beh (kV v) with
  | true =>
   left
   refine ⟨0, Nat.succ_pos _, ?_, h, fun i hi => absurd hi (Nat.not_lt_zero _)⟩
   unfold nextA
   rw [hN, if_pos h]
   simp only [List.getD_cons_zero]
   unfold kV keyV
   rw [List.drop_left' hv.ok.g, List.take_left' hv.ok.g, strOf_toList]
  | false =>
   have hA : nextA ((v :: V).map kV) beh = nextA (V.map kV) beh := by
    unfold nextA
    rw [hN, if_neg (by rw [h]; simp)]
   rw [hA]
   rcases nextA_first beh (V := V) fun u hu => hV u (List.mem_cons_of_mem _ hu) with ⟨j, h1, h2, h3, h4⟩ | ⟨h1, h2⟩
   ·refine .inl ⟨j + 1, Nat.succ_lt_succ h1, h2, h3, fun i hi => ?_⟩
    cases i with
    | zero => exact h
    | succ i => exact h4 i (Nat.lt_of_succ_lt_succ hi)
   ·refine .inr ⟨h1, fun i hi => ?_⟩
    cases i with
    | zero => exact h
    | succ i => exact h2 i (Nat.lt_of_succ_lt_succ hi)
theorem VS.there {M : List RK} {V : List VarV} (hS : VS M V) {nm : ByteArray} {g : List UInt8} (hg : g.length = 16) : (∃ v ∈ V, v.nm = nm ∧ v.g = g) ↔ ∃ r ∈ M, r.key = keyV nm g := by
 constructor
 ·rintro ⟨v, hv, rfl, rfl⟩
  exact ⟨_, (hS.ok v hv).2, rfl⟩
 ·rintro ⟨r, hr, e⟩
  have hk : r.key ∈ srtK (M.map fun r => r.key) := (List.mergeSort_perm _ _).mem_iff.2 (List.mem_map.2 ⟨r, hr, rfl⟩)
  rw [hS.ks] at hk
  obtain ⟨v, hv, hke⟩ := List.mem_map.1 hk
  obtain ⟨e1, e2⟩ := keyV_inj (hS.ok v hv).1.ok.g hg (hke.trans e)
  exact ⟨v, hv, e1, e2⟩
def thereB (V : List VarV) (nm : ByteArray) (g : List UInt8) (k : Nat) : Bool := (V.take k).any fun v => decide (v.nm = nm ∧ v.g = g)
theorem thereB_succ {V : List VarV} {nm : ByteArray} {g : List UInt8} {k : Nat} (h : k < V.length) : thereB V nm g (k + 1) = (thereB V nm g k || decide ((V.getD k varZ).nm = nm ∧ (V.getD k varZ).g = g)) := by
 unfold thereB
 rw [List.take_succ_eq_append_getElem h, List.any_append, List.getD_eq_getElem?_getD, List.getElem?_eq_getElem h]
 simp
theorem thereB_all {V : List VarV} {nm : ByteArray} {g : List UInt8} : thereB V nm g V.length = true ↔ ∃ v ∈ V, v.nm = nm ∧ v.g = g := by
 unfold thereB
 rw [List.take_length, List.any_eq_true]
 simp only [decide_eq_true_eq]
theorem cat_lt (a b : VarV) : Op.bytesLess (strOf a.g ++ a.nm).data.toList (strOf b.g ++ b.nm).data.toList = ltB (keyV a.nm a.g) (keyV b.nm b.g) := by
 have e : ∀ v : VarV, (strOf v.g ++ v.nm).data.toList = keyV v.nm v.g := fun v => by
  unfold keyV
  rw [ByteArray.data_append, Array.toList_append, strOf_data]
 rw [e a, e b]; rfl
theorem ahead_nn (a b : VarV) (ha : a.g.length = 16) (hb : b.g.length = 16) (ha1 : a.nm.size ≤ 1000000) (hb1 : b.nm.size ≤ 1000000) : Spec Tryz.prog 43 [.agg (varA (.val (.slice none 0 0)) a), .agg (varA (.val (.slice none 0 0)) b)] [] (pms (.val (.bool (ltB (keyV a.nm a.g) (keyV b.nm b.g)))) [] []) := by
 (
 refine spec_entry tbOk Tryz.func43 rfl Tryz.ntmps43 Tryz.results43 ?_
 have hsa : (strOf a.g).size = 16 := by rw [strOf_size, ha]
 have hsb : (strOf b.g).size = 16 := by rw [strOf_size, hb]
 unfold varA
 refine ggO (k := ?_)
 (refine sts (k := ?_))
 refine draw_of (p := 0) tbOk hm [0, 1, 3, 0, 8, 31, 0, 64, 192, 0, 512, 1984, 4095, 8191] [⟨0, true, false, [6, 7, 8, 9, 10, 11, 12, 13, 14, 15, 16, 17, 4]⟩, ⟨1, true, false, [7, 8, 9, 10, 11, 12, 13, 14, 15, 16, 17, 4]⟩, ⟨2, true, false, [8, 9, 10, 11, 12, 13, 14, 15, 16, 17, 4]⟩, ⟨3, true, false, [5, 6, 7, 9, 10, 11, 12, 13, 14, 15, 16, 17, 4]⟩, ⟨4, true, false, [5, 6, 7, 10, 11, 12, 13, 14, 15, 16, 17, 4]⟩, ⟨5, false, false, []⟩, ⟨6, true, false, [5, 6, 7, 8, 9, 10, 12, 13, 14, 15, 16, 17, 4]⟩, ⟨7, true, false, [5, 6, 7, 8, 9, 10, 13, 14, 15, 16, 17, 4]⟩, ⟨8, true, false, [5, 6, 7, 8, 9, 10, 14, 15, 16, 17, 4]⟩, ⟨9, true, false, [5, 6, 7, 8, 9, 10, 11, 12, 13, 15, 16, 17, 4]⟩, ⟨10, true, false, [5, 6, 7, 8, 9, 10, 11, 12, 13, 16, 17, 4]⟩, ⟨11, false, false, []⟩, ⟨12, false, false, []⟩, ⟨13, false, false, []⟩] (by kernel_rfl) ?_
 refine ggO (k := ?_)
 conv => whnf
 refine And.intro ⟨rfl, rfl, Nat.le_of_ble_eq_true rfl, okBytes_nat [a.g.getD 0 0, a.g.getD 1 0, a.g.getD 2 0, a.g.getD 3 0, a.g.getD 4 0, a.g.getD 5 0, a.g.getD 6 0, a.g.getD 7 0, a.g.getD 8 0, a.g.getD 9 0, a.g.getD 10 0, a.g.getD 11 0, a.g.getD 12 0, a.g.getD 13 0, a.g.getD 14 0, a.g.getD 15 0]⟩ ?_
 rw [guid_bs a.g ha]
 refine ggO (k := ?_)
 conv => whnf
 refine And.intro ⟨rfl, rfl, Nat.le_of_ble_eq_true rfl, okBytes_nat [b.g.getD 0 0, b.g.getD 1 0, b.g.getD 2 0, b.g.getD 3 0, b.g.getD 4 0, b.g.getD 5 0, b.g.getD 6 0, b.g.getD 7 0, b.g.getD 8 0, b.g.getD 9 0, b.g.getD 10 0, b.g.getD 11 0, b.g.getD 12 0, b.g.getD 13 0, b.g.getD 14 0, b.g.getD 15 0]⟩ ?_
 rw [guid_bs b.g hb]
 refine ggO (k := ?_)
 rw [show Op.bytesLess (strOf a.g ++ a.nm).data.toList (strOf b.g ++ b.nm).data.toList = ltB (keyV a.nm a.g) (keyV b.nm b.g) from cat_lt a b]
 exact ⟨_, rfl, rfl, trivial⟩)
theorem ahead_bn (a b : VarV) (l : List UInt8) (ha : a.g.length = 16) (hb : b.g.length = 16) (ha1 : a.nm.size ≤ 1000000) (hb1 : b.nm.size ≤ 1000000) : Spec Tryz.prog 43 [.agg (varA (.bs 0 l) a), .agg (varA (.val (.slice none 0 0)) b)] [] (pms (.val (.bool (ltB (keyV a.nm a.g) (keyV b.nm b.g)))) [] []) := by
 (
 refine spec_entry tbOk Tryz.func43 rfl Tryz.ntmps43 Tryz.results43 ?_
 have hsa : (strOf a.g).size = 16 := by rw [strOf_size, ha]
 have hsb : (strOf b.g).size = 16 := by rw [strOf_size, hb]
 unfold varA
 refine ggO (k := ?_)
 (refine sts (k := ?_))
 refine draw_of (p := 0) tbOk hm [0, 1, 3, 0, 8, 31, 0, 64, 192, 0, 512, 1984, 4095, 8191] [⟨0, true, false, [6, 7, 8, 9, 10, 11, 12, 13, 14, 15, 16, 17, 4]⟩, ⟨1, true, false, [7, 8, 9, 10, 11, 12, 13, 14, 15, 16, 17, 4]⟩, ⟨2, true, false, [8, 9, 10, 11, 12, 13, 14, 15, 16, 17, 4]⟩, ⟨3, true, false, [5, 6, 7, 9, 10, 11, 12, 13, 14, 15, 16, 17, 4]⟩, ⟨4, true, false, [5, 6, 7, 10, 11, 12, 13, 14, 15, 16, 17, 4]⟩, ⟨5, false, false, []⟩, ⟨6, true, false, [5, 6, 7, 8, 9, 10, 12, 13, 14, 15, 16, 17, 4]⟩, ⟨7, true, false, [5, 6, 7, 8, 9, 10, 13, 14, 15, 16, 17, 4]⟩, ⟨8, true, false, [5, 6, 7, 8, 9, 10, 14, 15, 16, 17, 4]⟩, ⟨9, true, false, [5, 6, 7, 8, 9, 10, 11, 12, 13, 15, 16, 17, 4]⟩, ⟨10, true, false, [5, 6, 7, 8, 9, 10, 11, 12, 13, 16, 17, 4]⟩, ⟨11, false, false, []⟩, ⟨12, false, false, []⟩, ⟨13, false, false, []⟩] (by kernel_rfl) ?_
 refine ggO (k := ?_)
 conv => whnf
 refine And.intro ⟨rfl, rfl, Nat.le_of_ble_eq_true rfl, okBytes_nat [a.g.getD 0 0, a.g.getD 1 0, a.g.getD 2 0, a.g.getD 3 0, a.g.getD 4 0, a.g.getD 5 0, a.g.getD 6 0, a.g.getD 7 0, a.g.getD 8 0, a.g.getD 9 0, a.g.getD 10 0, a.g.getD 11 0, a.g.getD 12 0, a.g.getD 13 0, a.g.getD 14 0, a.g.getD 15 0]⟩ ?_
 rw [guid_bs a.g ha]
 refine ggO (k := ?_)
 conv => whnf
 refine And.intro ⟨rfl, rfl, Nat.le_of_ble_eq_true rfl, okBytes_nat [b.g.getD 0 0, b.g.getD 1 0, b.g.getD 2 0, b.g.getD 3 0, b.g.getD 4 0, b.g.getD 5 0, b.g.getD 6 0, b.g.getD 7 0, b.g.getD 8 0, b.g.getD 9 0, b.g.getD 10 0, b.g.getD 11 0, b.g.getD 12 0, b.g.getD 13 0, b.g.getD 14 0, b.g.getD 15 0]⟩ ?_
 rw [guid_bs b.g hb]
 refine ggO (k := ?_)
 rw [show Op.bytesLess (strOf a.g ++ a.nm).data.toList (strOf b.g ++ b.nm).data.toList = ltB (keyV a.nm a.g) (keyV b.nm b.g) from cat_lt a b]
 exact ⟨_, rfl, rfl, trivial⟩)
end Go.Proofs.YtpbpiehcchannaaGreatDoor
