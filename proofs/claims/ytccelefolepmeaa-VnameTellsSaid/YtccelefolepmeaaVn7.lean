/- Package vname: contract of Kind, the walk. Conditions: a string of at most maxLen bytes, a guid of 16 bytes. -/
import Derived.Test.YtccelefolepmeaaVn6
namespace Go.Proofs.Ytccelefolepmeaa
open Go.RowKit
set_option linter.unusedVariables false

/-- what each operation of the first region leaves -/
def RK (B : Nat) (i : Nat) (vs : Nat → Value) (w : World) : Prop :=
  match i with
  | 0 => ∃ b, vs 0 = .map (some b) ∧ B ≤ b ∧ MapOk b w
  | 1 => vs 1 = gv globalG
  | 2 => vs 2 = sgv nPK globalG
  | 3 => ∀ b, vs 0 = .map (some b) → B ≤ b → Pr b (sgv nPK globalG) w
  | 4 => vs 4 = gv globalG
  | 5 => vs 5 = sgv nKEK globalG
  | 6 => ∀ b, vs 0 = .map (some b) → B ≤ b → Pr b (sgv nKEK globalG) w
  | 7 => vs 7 = vs 0
  | 8 => vs 8 = vs 0
  | _ => True
theorem mem_tab (i : Nat) (h : i < 9 := by decide) : tab.getD i ([], [], 0) ∈ tab := by
  have h' : i < tab.length := h
  simp [List.getD, h']
theorem alloc_map_ok (w : World) : MapOk w.heap.size (w.alloc (.map #[] 0)) := ⟨#[], 0, heap_alloc_new w _, fun e he => by simp at he⟩

set_option maxHeartbeats 4000000 in
theorem kind_spec (s : ByteArray) (g : List UInt8) (w : World) (hs : s.size ≤ maxLen) (hg : g.length = 16) :
    Calls Try.prog 20 #[.string s, gv g] w fun e w' => e = .returned (.int .u8 (kindF s.data.toList g)) ∧ Below w.heap.size w w' := by
  have hcs : (bvs g).toArray.size = 16 := by simp [hg]
  have HG := Lib.hid hg; clear hg
  obtain ⟨cs, hc1, hc2⟩ : ∃ cs, gv g = .agg cs ∧ cs = (bvs g).toArray := ⟨_, rfl, rfl⟩
  have hcsz : cs.size = 16 := by rw [hc2]; exact hcs
  have gvg : Hid (gv g = .agg cs) := hc1
  rw [hc1]
  clear hc1 hc2 hcs
  obtain ⟨B, hB⟩ : ∃ B, B = (w.alloc (.cells cs 31)).heap.size := ⟨_, rfl⟩
  have hBs : B = w.heap.size + 1 := by rw [hB]; simp
  have HBS := Lib.hid hBs; clear hBs
  have HB := Lib.hid hB; clear hB
  have hblk : Hid (∀ w2, Below B (w.alloc (.cells cs 31)).drew w2 → w2.heap[w.heap.size]? = some (.cells cs 31)) := fun w2 h => (h.block _ (by rw [HBS.out]; omega)).trans (heap_alloc_new w _)
  go_enter Try.func20, Try.ntmps20
  go_wp2_with fail
  refine wp_region_rg (by kernel_rfl) (by kernel_rfl) (by kernel_rfl) (GK B) (RK B) (GK.refl _ _) (fun _ _ _ h k => h.trans k) ?_ ?_ ?_ ?_
  · intro i vs a b _ hG h
    match i, h with
    | 0, ⟨b', h1, h2, h3⟩ => exact ⟨b', h1, h2, hG.ok b' h2 h3⟩
    | 1, h => exact h
    | 2, h => exact h
    | 3, h => exact fun b' h1 h2 => hG.pr b' _ h2 (h b' h1 h2)
    | 4, h => exact h
    | 5, h => exact h
    | 6, h => exact fun b' h1 h2 => hG.pr b' _ h2 (h b' h1 h2)
    | 7, h => exact h
    | 8, h => exact h
    | i + 9, h => trivial
  · intro i vs us a _ h hR
    match i, h, hR with
    | 0, h, ⟨b', h1, h2⟩ => exact ⟨b', (h 0 (.inl rfl)).symm.trans h1, h2⟩
    | 1, h, hR => exact (h 1 (.inl rfl)).symm.trans hR
    | 2, h, hR => exact (h 2 (.inl rfl)).symm.trans hR
    | 3, h, hR => exact fun b' h1 h2 => hR b' ((h 0 (.inr (by kernel_rfl))).trans h1) h2
    | 4, h, hR => exact (h 4 (.inl rfl)).symm.trans hR
    | 5, h, hR => exact (h 5 (.inl rfl)).symm.trans hR
    | 6, h, hR => exact fun b' h1 h2 => hR b' ((h 0 (.inr (by kernel_rfl))).trans h1) h2
    | 7, h, hR => exact ((h 7 (.inl rfl)).symm.trans hR).trans (h 0 (.inr (by kernel_rfl)))
    | 8, h, hR => exact ((h 8 (.inl rfl)).symm.trans hR).trans (h 0 (.inr (by kernel_rfl)))
    | i + 9, h, hR => trivial
  · intro i op ho x vs w2 hG hdf hdep hown
    have hsz : B ≤ w2.heap.size := by have := hG.below.size; rw [HBS.out]; simp at this; omega
    match i, ho with
    | 0, ho =>
      obtain rfl := Option.some.inj ho
      refine wpOp_wp rfl rfl (wp_val (exec_makeMap rfl) ⟨_, rfl, GK.of_below ((Below.refl _ w2).alloc (Nat.le_refl _) _) hsz, fun us hu _ => ⟨_, hu, hsz, alloc_map_ok w2⟩⟩)
    | 1, ho =>
      obtain rfl := Option.some.inj ho
      refine wpOp_wp rfl rfl (wpv_call rfl Try.call18 (args := #[]) (by simp) ?_)
      refine (global_spec w2).mono ?_
      rintro e w3 ⟨rfl, hb⟩
      exact ⟨_, rfl, _, rfl, GK.of_below hb hsz, fun us hu _ => hu⟩
    | 2, ho =>
      obtain rfl := Option.some.inj ho
      have h1 := hdep 1 (by kernel_rfl)
      have e1 : x.tmps.getD 11 undef = gv globalG := (h1.2 11 rfl).trans h1.1
      exact wpOp_wp rfl rfl (wp_val (exec_build (ps := #[(0, .string (strOf nPK)), (1, gv globalG)]) rfl (by simp only [List.map_toArray, List.map_cons, List.map_nil]; rw [show x.eval (.tmp 11) = _ from e1]; rfl) (build44 nPK globalG rfl w2)) ⟨_, rfl, GK.refl _ _, fun us hu _ => hu⟩)
    | 3, ho =>
      obtain rfl := Option.some.inj ho
      have h0 := hdep 0 (by kernel_rfl)
      have h2 := hdep 2 (by kernel_rfl)
      obtain ⟨b, hb1, hb2, hb3⟩ := h0.1
      obtain ⟨w3, hr, o1, o2, o3, o4, o5⟩ := map_put hb3 (nPK, globalG, 1) (by simp [tab])
      refine wpOp_wp rfl rfl (wpv_skip (v' := undef) (exec_mapUpdate (m := .tmp 10) (x := .tmp 12) (y := .const (.int .u8 1)) (.inr rfl) ((h0.2 10 rfl).trans hb1) ((h2.2 12 rfl).trans h2.1) rfl hr) rfl ⟨undef, rfl, GK.put hb2 hsz o4 o1 o3, fun us _ hu b' h1 h2 => ?_⟩)
      have : vs 0 = .map (some b') := (hu 0 (by omega)).symm.trans h1
      rw [hb1] at this
      cases this
      exact o2
    | 4, ho =>
      obtain rfl := Option.some.inj ho
      refine wpOp_wp rfl rfl (wpv_call rfl Try.call18 (args := #[]) (by simp) ?_)
      refine (global_spec w2).mono ?_
      rintro e w3 ⟨rfl, hb⟩
      exact ⟨_, rfl, _, rfl, GK.of_below hb hsz, fun us hu _ => hu⟩
    | 5, ho =>
      obtain rfl := Option.some.inj ho
      have h1 := hdep 4 (by kernel_rfl)
      have e1 : x.tmps.getD 13 undef = gv globalG := (h1.2 13 rfl).trans h1.1
      exact wpOp_wp rfl rfl (wp_val (exec_build (ps := #[(0, .string (strOf nKEK)), (1, gv globalG)]) rfl (by simp only [List.map_toArray, List.map_cons, List.map_nil]; rw [show x.eval (.tmp 13) = _ from e1]; rfl) (build44 nKEK globalG rfl w2)) ⟨_, rfl, GK.refl _ _, fun us hu _ => hu⟩)
    | 6, ho =>
      obtain rfl := Option.some.inj ho
      have h0 := hdep 0 (by kernel_rfl)
      have h2 := hdep 5 (by kernel_rfl)
      obtain ⟨b, hb1, hb2, hb3⟩ := h0.1
      obtain ⟨w3, hr, o1, o2, o3, o4, o5⟩ := map_put hb3 (nKEK, globalG, 2) (by simp [tab])
      refine wpOp_wp rfl rfl (wpv_skip (v' := undef) (exec_mapUpdate (m := .tmp 10) (x := .tmp 14) (y := .const (.int .u8 2)) (.inr rfl) ((h0.2 10 rfl).trans hb1) ((h2.2 14 rfl).trans h2.1) rfl hr) rfl ⟨undef, rfl, GK.put hb2 hsz o4 o1 o3, fun us _ hu b' h1 h2 => ?_⟩)
      have : vs 0 = .map (some b') := (hu 0 (by omega)).symm.trans h1
      rw [hb1] at this
      cases this
      exact o2
    | 7, ho =>
      obtain rfl := Option.some.inj ho
      have h0 := hdep 0 (by kernel_rfl)
      exact wpOp_wp rfl rfl (wp_val (exec_move (x := .tmp 10) rfl (h0.2 10 rfl)) ⟨_, rfl, GK.refl _ _, fun us hu hu' => hu.trans (hu' 0 (by omega)).symm⟩)
    | 8, ho =>
      obtain rfl := Option.some.inj ho
      have h0 := hdep 7 (by kernel_rfl)
      exact wpOp_wp rfl rfl (wp_val (exec_assign (x := .tmp 15) rfl (h0.2 15 rfl)) ⟨_, rfl, GK.refl _ _, fun us hu hu' => (hu.trans h0.1).trans (hu' 0 (by omega)).symm⟩)
    | i + 9, ho => simp at ho
  · intro vs w2 hG hR
    obtain ⟨b, hb1, hb2, hb3⟩ := hR 0 (by simp)
    have hp1 := hR 3 (by simp) b hb1 hb2
    have hp2 := hR 6 (by simp) b hb1 hb2
    have e7 := hR 7 (by simp)
    have e8 := hR 8 (by simp)
    have e1 := hR 1 (by simp)
    have e2 := hR 2 (by simp)
    have e4 := hR 4 (by simp)
    have e5 := hR 5 (by simp)
    simp only [RK] at e7 e8 e1 e2 e4 e5
    rw [putL_list]
    simp only [List.map_cons, List.map_nil, putV, Nat.reduceAdd, Act.put, List.setIfInBounds_toArray, List.set_cons_succ, List.set_cons_zero, e8, e7, hb1]
    clear e1 e2 e4 e5 e7 e8 hR hb1
    have hbw : Below w.heap.size w w2 := (((Below.refl _ w).alloc (Nat.le_refl _) (.cells cs 31)).drew).trans (hG.below.mono (by rw [HBS.out]; omega))
    have hbc := hblk.out w2 hG.below
    have hsz2 : B ≤ w2.heap.size := by have := hG.below.size; rw [HBS.out]; simp at this; omega
    have HBW := Lib.hid hbw; clear hbw
    have HBC := Lib.hid hbc; clear hbc hG
    have hbne : b < w2.heap.size := by obtain ⟨es, c, hb, _⟩ := hb3; exact (Array.getElem?_eq_some_iff.1 hb).1
    have hp12 : ∀ m, m < 2 → Pr b (sgv (tab.getD m ([], [], 0)).1 (tab.getD m ([], [], 0)).2.1) w2 := fun m hm => by
      match m, hm with
      | 0, _ => exact hp1
      | 1, _ => exact hp2
    have hex1 := fun o : Obj => GK.of_below (B := 0) ((Below.refl _ w2).alloc (Nat.le_refl _) o) (Nat.zero_le _)
    have ATOK1 : Hid (∀ o : Obj, MapOk b (w2.alloc o)) := fun o => (hex1 o).ok b (Nat.zero_le _) hb3
    have ATPR1 : Hid (∀ o : Obj, ∀ m, m < 2 → Pr b (sgv (tab.getD m ([], [], 0)).1 (tab.getD m ([], [], 0)).2.1) (w2.alloc o)) := fun o m hm => (hex1 o).pr b _ (Nat.zero_le _) (hp12 m hm)
    have ATB1 : Hid (∀ o : Obj, Below w.heap.size w (w2.alloc o)) := fun o => HBW.out.alloc HBW.out.size o
    have ATC1 : Hid (∀ o : Obj, (w2.alloc o).heap[w.heap.size]? = some (.cells cs 31)) := fun o => (Below.heap_alloc w2 o _ (by have := HBS.out; omega)).trans HBC.out
    clear hex1
    clear hp1 hp2 hb3 hp12
    have hne : b ≠ w.heap.size := by have := HBS.out; omega
    go_wp2_with fail
    go_loopw [18] (fun i wr => ∃ j : Nat, j ≤ 4 ∧ i = .int .i64 j ∧ wr.heap[w2.heap.size]? = some (.cells #[.string ⟨#[83, 101, 116, 117, 112, 77, 111, 100, 101]⟩, .string ⟨#[83, 101, 99, 117, 114, 101, 66, 111, 111, 116]⟩, .string ⟨#[65, 117, 100, 105, 116, 77, 111, 100, 101]⟩, .string ⟨#[68, 101, 112, 108, 111, 121, 101, 100, 77, 111, 100, 101]⟩] 9) ∧ MapOk b wr ∧ (∀ m, m < 2 + j → Pr b (sgv (tab.getD m ([], [], 0)).1 (tab.getD m ([], [], 0)).2.1) wr) ∧ Below w.heap.size w wr ∧ wr.heap[w.heap.size]? = some (.cells cs 31) ∧ B ≤ wr.heap.size ∧ w2.heap.size < wr.heap.size) (fun i _ => 4 - (intOf i).toNat)
    case atStart => exact ⟨0, by omega, rfl, heap_alloc_new _ _, ATOK1.out _, ATPR1.out _, ATB1.out _, ATC1.out _, by simp; omega, by simp⟩
    case round =>
      obtain ⟨j, hj, rfl, hrn, hro, hrp, hrb, hrc, hrs1, hrsb1⟩ := hrel
      have HRN1 := Lib.hid hrn; clear hrn
      have HRO1 := Lib.hid hro; clear hro
      have HRP1 := Lib.hid hrp; clear hrp
      have HRB1 := Lib.hid hrb; clear hrb
      have HRC1 := Lib.hid hrc; clear hrc
      by_cases hlt : j < 4
      · have hbsb : b ≠ w2.heap.size := by rintro e; obtain ⟨es, c, hb, _⟩ := HRO1.out; rw [e, HRN1.out] at hb; cases hb
        match j, hlt with
        | 0, _ =>
          have hc : wr.cell? ⟨w2.heap.size, 0, none⟩ = some (.string ⟨#[83, 101, 116, 117, 112, 77, 111, 100, 101]⟩) := by rw [cell_of_row wr w2.heap.size 0 _ _ _ HRN1.out]; rfl
          go_wp2_with (first
            | (go_at_call 18; refine (global_spec _).mono ?_; rintro e w3 ⟨rfl, hb3⟩; have HB3 := Lib.hid hb3; clear hb3)
            | ((with_reducible show wpList _ _ _ (Oper.mk _ (Op.build _ _) _ _ _ _ :: _) _ _); refine wpl_build rfl 44 _ rfl _ rfl _ (build44 nSetup globalG rfl _) ?_)
            | ((with_reducible show wpList _ _ _ (Oper.mk _ (Op.mapUpdate _ _ _ _) _ _ _ _ :: _) _ _); obtain ⟨w4, hr4, o1, o2, o3, o4⟩ := map_round HB3.out HRO1.out (nSetup, globalG, 4) (mem_tab 2); have hr5 : (Instr.mapUpdate 45 (.map (some b)) (sgv nSetup globalG) (.int .u8 4)).run Try.prog w3 = .ok () w4 := hr4; clear hr4; refine wpl_skip rfl (exec_mapUpdate (m := .tmp 22) (x := .tmp 25) (y := .const (.int .u8 4)) (.inl rfl) rfl rfl rfl hr5) ?_; have O1 := Lib.hid o1; have O2 := Lib.hid o2; have O3 := Lib.hid o3; have O4 := Lib.hid o4; clear o1 o2 o3 o4 hr5))
          go_roundw
          case rel =>
            refine ⟨1, by omega, by go_num, (O4.out.block _ hrsb1 (Ne.symm hbsb)).trans HRN1.out, O1.out, fun m hm => ?_, HRB1.out.trans (O4.out.below (fun i hi e => by subst e; have := HBS.out; omega) HRB1.out.size), (O4.out.block _ (by have := HBS.out; omega) (Ne.symm hne)).trans HRC1.out, Nat.le_trans hrs1 O4.out.size, Nat.lt_of_lt_of_le hrsb1 O4.out.size⟩
            by_cases hm' : m < 2 + 0
            · exact O3.out _ (HRP1.out m hm')
            · obtain rfl : m = 2 := by omega
              exact O2.out
          case measure => simp [intOf]
        | 1, _ =>
          have hc : wr.cell? ⟨w2.heap.size, 1, none⟩ = some (.string ⟨#[83, 101, 99, 117, 114, 101, 66, 111, 111, 116]⟩) := by rw [cell_of_row wr w2.heap.size 1 _ _ _ HRN1.out]; rfl
          go_wp2_with (first
            | (go_at_call 18; refine (global_spec _).mono ?_; rintro e w3 ⟨rfl, hb3⟩; have HB3 := Lib.hid hb3; clear hb3)
            | ((with_reducible show wpList _ _ _ (Oper.mk _ (Op.build _ _) _ _ _ _ :: _) _ _); refine wpl_build rfl 44 _ rfl _ rfl _ (build44 nSecure globalG rfl _) ?_)
            | ((with_reducible show wpList _ _ _ (Oper.mk _ (Op.mapUpdate _ _ _ _) _ _ _ _ :: _) _ _); obtain ⟨w4, hr4, o1, o2, o3, o4⟩ := map_round HB3.out HRO1.out (nSecure, globalG, 4) (mem_tab 3); have hr5 : (Instr.mapUpdate 45 (.map (some b)) (sgv nSecure globalG) (.int .u8 4)).run Try.prog w3 = .ok () w4 := hr4; clear hr4; refine wpl_skip rfl (exec_mapUpdate (m := .tmp 22) (x := .tmp 25) (y := .const (.int .u8 4)) (.inl rfl) rfl rfl rfl hr5) ?_; have O1 := Lib.hid o1; have O2 := Lib.hid o2; have O3 := Lib.hid o3; have O4 := Lib.hid o4; clear o1 o2 o3 o4 hr5))
          go_roundw
          case rel =>
            refine ⟨2, by omega, by go_num, (O4.out.block _ hrsb1 (Ne.symm hbsb)).trans HRN1.out, O1.out, fun m hm => ?_, HRB1.out.trans (O4.out.below (fun i hi e => by subst e; have := HBS.out; omega) HRB1.out.size), (O4.out.block _ (by have := HBS.out; omega) (Ne.symm hne)).trans HRC1.out, Nat.le_trans hrs1 O4.out.size, Nat.lt_of_lt_of_le hrsb1 O4.out.size⟩
            by_cases hm' : m < 2 + 1
            · exact O3.out _ (HRP1.out m hm')
            · obtain rfl : m = 3 := by omega
              exact O2.out
          case measure => simp [intOf]
        | 2, _ =>
          have hc : wr.cell? ⟨w2.heap.size, 2, none⟩ = some (.string ⟨#[65, 117, 100, 105, 116, 77, 111, 100, 101]⟩) := by rw [cell_of_row wr w2.heap.size 2 _ _ _ HRN1.out]; rfl
          go_wp2_with (first
            | (go_at_call 18; refine (global_spec _).mono ?_; rintro e w3 ⟨rfl, hb3⟩; have HB3 := Lib.hid hb3; clear hb3)
            | ((with_reducible show wpList _ _ _ (Oper.mk _ (Op.build _ _) _ _ _ _ :: _) _ _); refine wpl_build rfl 44 _ rfl _ rfl _ (build44 nAudit globalG rfl _) ?_)
            | ((with_reducible show wpList _ _ _ (Oper.mk _ (Op.mapUpdate _ _ _ _) _ _ _ _ :: _) _ _); obtain ⟨w4, hr4, o1, o2, o3, o4⟩ := map_round HB3.out HRO1.out (nAudit, globalG, 4) (mem_tab 4); have hr5 : (Instr.mapUpdate 45 (.map (some b)) (sgv nAudit globalG) (.int .u8 4)).run Try.prog w3 = .ok () w4 := hr4; clear hr4; refine wpl_skip rfl (exec_mapUpdate (m := .tmp 22) (x := .tmp 25) (y := .const (.int .u8 4)) (.inl rfl) rfl rfl rfl hr5) ?_; have O1 := Lib.hid o1; have O2 := Lib.hid o2; have O3 := Lib.hid o3; have O4 := Lib.hid o4; clear o1 o2 o3 o4 hr5))
          go_roundw
          case rel =>
            refine ⟨3, by omega, by go_num, (O4.out.block _ hrsb1 (Ne.symm hbsb)).trans HRN1.out, O1.out, fun m hm => ?_, HRB1.out.trans (O4.out.below (fun i hi e => by subst e; have := HBS.out; omega) HRB1.out.size), (O4.out.block _ (by have := HBS.out; omega) (Ne.symm hne)).trans HRC1.out, Nat.le_trans hrs1 O4.out.size, Nat.lt_of_lt_of_le hrsb1 O4.out.size⟩
            by_cases hm' : m < 2 + 2
            · exact O3.out _ (HRP1.out m hm')
            · obtain rfl : m = 4 := by omega
              exact O2.out
          case measure => simp [intOf]
        | 3, _ =>
          have hc : wr.cell? ⟨w2.heap.size, 3, none⟩ = some (.string ⟨#[68, 101, 112, 108, 111, 121, 101, 100, 77, 111, 100, 101]⟩) := by rw [cell_of_row wr w2.heap.size 3 _ _ _ HRN1.out]; rfl
          go_wp2_with (first
            | (go_at_call 18; refine (global_spec _).mono ?_; rintro e w3 ⟨rfl, hb3⟩; have HB3 := Lib.hid hb3; clear hb3)
            | ((with_reducible show wpList _ _ _ (Oper.mk _ (Op.build _ _) _ _ _ _ :: _) _ _); refine wpl_build rfl 44 _ rfl _ rfl _ (build44 nDeployed globalG rfl _) ?_)
            | ((with_reducible show wpList _ _ _ (Oper.mk _ (Op.mapUpdate _ _ _ _) _ _ _ _ :: _) _ _); obtain ⟨w4, hr4, o1, o2, o3, o4⟩ := map_round HB3.out HRO1.out (nDeployed, globalG, 4) (mem_tab 5); have hr5 : (Instr.mapUpdate 45 (.map (some b)) (sgv nDeployed globalG) (.int .u8 4)).run Try.prog w3 = .ok () w4 := hr4; clear hr4; refine wpl_skip rfl (exec_mapUpdate (m := .tmp 22) (x := .tmp 25) (y := .const (.int .u8 4)) (.inl rfl) rfl rfl rfl hr5) ?_; have O1 := Lib.hid o1; have O2 := Lib.hid o2; have O3 := Lib.hid o3; have O4 := Lib.hid o4; clear o1 o2 o3 o4 hr5))
          go_roundw
          case rel =>
            refine ⟨4, by omega, by go_num, (O4.out.block _ hrsb1 (Ne.symm hbsb)).trans HRN1.out, O1.out, fun m hm => ?_, HRB1.out.trans (O4.out.below (fun i hi e => by subst e; have := HBS.out; omega) HRB1.out.size), (O4.out.block _ (by have := HBS.out; omega) (Ne.symm hne)).trans HRC1.out, Nat.le_trans hrs1 O4.out.size, Nat.lt_of_lt_of_le hrsb1 O4.out.size⟩
            by_cases hm' : m < 2 + 3
            · exact O3.out _ (HRP1.out m hm')
            · obtain rfl : m = 5 := by omega
              exact O2.out
          case measure => simp [intOf]
      · obtain rfl : j = 4 := by omega
        obtain ⟨wo, rfl⟩ : ∃ wo : World, wo = wr := ⟨_, rfl⟩
        have hex2 := fun o : Obj => GK.of_below (B := 0) ((Below.refl _ wo).alloc (Nat.le_refl _) o) (Nat.zero_le _)
        have ATOK2 : Hid (∀ o : Obj, MapOk b (wo.alloc o)) := fun o => (hex2 o).ok b (Nat.zero_le _) HRO1.out
        have ATPR2 : Hid (∀ o : Obj, ∀ m, m < 6 → Pr b (sgv (tab.getD m ([], [], 0)).1 (tab.getD m ([], [], 0)).2.1) (wo.alloc o)) := fun o m hm => (hex2 o).pr b _ (Nat.zero_le _) (HRP1.out m hm)
        have ATB2 : Hid (∀ o : Obj, Below w.heap.size w (wo.alloc o)) := fun o => HRB1.out.alloc HRB1.out.size o
        have ATC2 : Hid (∀ o : Obj, (wo.alloc o).heap[w.heap.size]? = some (.cells cs 31)) := fun o => (Below.heap_alloc wo o _ (by have := HBS.out; omega)).trans HRC1.out
        clear hex2
        go_wp2_with fail
        go_loopw [29] (fun i wr => ∃ j : Nat, j ≤ 3 ∧ i = .int .i64 j ∧ wr.heap[wo.heap.size]? = some (.cells #[.string ⟨#[100, 98]⟩, .string ⟨#[100, 98, 120]⟩, .string ⟨#[100, 98, 116]⟩] 9) ∧ MapOk b wr ∧ (∀ m, m < 6 + j → Pr b (sgv (tab.getD m ([], [], 0)).1 (tab.getD m ([], [], 0)).2.1) wr) ∧ Below w.heap.size w wr ∧ wr.heap[w.heap.size]? = some (.cells cs 31) ∧ B ≤ wr.heap.size ∧ wo.heap.size < wr.heap.size) (fun i _ => 3 - (intOf i).toNat)
        case atStart => exact ⟨0, by omega, rfl, heap_alloc_new _ _, ATOK2.out _, ATPR2.out _, ATB2.out _, ATC2.out _, by simp; omega, by simp⟩
        case round =>
          obtain ⟨j, hj, rfl, hrn, hro, hrp, hrb, hrc, hrs2, hrsb2⟩ := hrel
          have HRN2 := Lib.hid hrn; clear hrn
          have HRO2 := Lib.hid hro; clear hro
          have HRP2 := Lib.hid hrp; clear hrp
          have HRB2 := Lib.hid hrb; clear hrb
          have HRC2 := Lib.hid hrc; clear hrc
          by_cases hlt : j < 3
          · have hbsb : b ≠ wo.heap.size := by rintro e; obtain ⟨es, c, hb, _⟩ := HRO2.out; rw [e, HRN2.out] at hb; cases hb
            match j, hlt with
            | 0, _ =>
              have hc : wr.cell? ⟨wo.heap.size, 0, none⟩ = some (.string ⟨#[100, 98]⟩) := by rw [cell_of_row wr wo.heap.size 0 _ _ _ HRN2.out]; rfl
              go_wp2_with (first
                | (go_at_call 19; refine (security_spec _).mono ?_; rintro e w3 ⟨rfl, hb3⟩; have HB3 := Lib.hid hb3; clear hb3)
                | ((with_reducible show wpList _ _ _ (Oper.mk _ (Op.build _ _) _ _ _ _ :: _) _ _); refine wpl_build rfl 44 _ rfl _ rfl _ (build44 nDb securityG rfl _) ?_)
                | ((with_reducible show wpList _ _ _ (Oper.mk _ (Op.mapUpdate _ _ _ _) _ _ _ _ :: _) _ _); obtain ⟨w4, hr4, o1, o2, o3, o4⟩ := map_round HB3.out HRO2.out (nDb, securityG, 3) (mem_tab 6); have hr5 : (Instr.mapUpdate 45 (.map (some b)) (sgv nDb securityG) (.int .u8 3)).run Try.prog w3 = .ok () w4 := hr4; clear hr4; refine wpl_skip rfl (exec_mapUpdate (m := .tmp 33) (x := .tmp 36) (y := .const (.int .u8 3)) (.inl rfl) rfl rfl rfl hr5) ?_; have O1 := Lib.hid o1; have O2 := Lib.hid o2; have O3 := Lib.hid o3; have O4 := Lib.hid o4; clear o1 o2 o3 o4 hr5))
              go_roundw
              case rel =>
                refine ⟨1, by omega, by go_num, (O4.out.block _ hrsb2 (Ne.symm hbsb)).trans HRN2.out, O1.out, fun m hm => ?_, HRB2.out.trans (O4.out.below (fun i hi e => by subst e; have := HBS.out; omega) HRB2.out.size), (O4.out.block _ (by have := HBS.out; omega) (Ne.symm hne)).trans HRC2.out, Nat.le_trans hrs2 O4.out.size, Nat.lt_of_lt_of_le hrsb2 O4.out.size⟩
                by_cases hm' : m < 6 + 0
                · exact O3.out _ (HRP2.out m hm')
                · obtain rfl : m = 6 := by omega
                  exact O2.out
              case measure => simp [intOf]
            | 1, _ =>
              have hc : wr.cell? ⟨wo.heap.size, 1, none⟩ = some (.string ⟨#[100, 98, 120]⟩) := by rw [cell_of_row wr wo.heap.size 1 _ _ _ HRN2.out]; rfl
              go_wp2_with (first
                | (go_at_call 19; refine (security_spec _).mono ?_; rintro e w3 ⟨rfl, hb3⟩; have HB3 := Lib.hid hb3; clear hb3)
                | ((with_reducible show wpList _ _ _ (Oper.mk _ (Op.build _ _) _ _ _ _ :: _) _ _); refine wpl_build rfl 44 _ rfl _ rfl _ (build44 nDbx securityG rfl _) ?_)
                | ((with_reducible show wpList _ _ _ (Oper.mk _ (Op.mapUpdate _ _ _ _) _ _ _ _ :: _) _ _); obtain ⟨w4, hr4, o1, o2, o3, o4⟩ := map_round HB3.out HRO2.out (nDbx, securityG, 3) (mem_tab 7); have hr5 : (Instr.mapUpdate 45 (.map (some b)) (sgv nDbx securityG) (.int .u8 3)).run Try.prog w3 = .ok () w4 := hr4; clear hr4; refine wpl_skip rfl (exec_mapUpdate (m := .tmp 33) (x := .tmp 36) (y := .const (.int .u8 3)) (.inl rfl) rfl rfl rfl hr5) ?_; have O1 := Lib.hid o1; have O2 := Lib.hid o2; have O3 := Lib.hid o3; have O4 := Lib.hid o4; clear o1 o2 o3 o4 hr5))
              go_roundw
              case rel =>
                refine ⟨2, by omega, by go_num, (O4.out.block _ hrsb2 (Ne.symm hbsb)).trans HRN2.out, O1.out, fun m hm => ?_, HRB2.out.trans (O4.out.below (fun i hi e => by subst e; have := HBS.out; omega) HRB2.out.size), (O4.out.block _ (by have := HBS.out; omega) (Ne.symm hne)).trans HRC2.out, Nat.le_trans hrs2 O4.out.size, Nat.lt_of_lt_of_le hrsb2 O4.out.size⟩
                by_cases hm' : m < 6 + 1
                · exact O3.out _ (HRP2.out m hm')
                · obtain rfl : m = 7 := by omega
                  exact O2.out
              case measure => simp [intOf]
            | 2, _ =>
              have hc : wr.cell? ⟨wo.heap.size, 2, none⟩ = some (.string ⟨#[100, 98, 116]⟩) := by rw [cell_of_row wr wo.heap.size 2 _ _ _ HRN2.out]; rfl
              go_wp2_with (first
                | (go_at_call 19; refine (security_spec _).mono ?_; rintro e w3 ⟨rfl, hb3⟩; have HB3 := Lib.hid hb3; clear hb3)
                | ((with_reducible show wpList _ _ _ (Oper.mk _ (Op.build _ _) _ _ _ _ :: _) _ _); refine wpl_build rfl 44 _ rfl _ rfl _ (build44 nDbt securityG rfl _) ?_)
                | ((with_reducible show wpList _ _ _ (Oper.mk _ (Op.mapUpdate _ _ _ _) _ _ _ _ :: _) _ _); obtain ⟨w4, hr4, o1, o2, o3, o4⟩ := map_round HB3.out HRO2.out (nDbt, securityG, 3) (mem_tab 8); have hr5 : (Instr.mapUpdate 45 (.map (some b)) (sgv nDbt securityG) (.int .u8 3)).run Try.prog w3 = .ok () w4 := hr4; clear hr4; refine wpl_skip rfl (exec_mapUpdate (m := .tmp 33) (x := .tmp 36) (y := .const (.int .u8 3)) (.inl rfl) rfl rfl rfl hr5) ?_; have O1 := Lib.hid o1; have O2 := Lib.hid o2; have O3 := Lib.hid o3; have O4 := Lib.hid o4; clear o1 o2 o3 o4 hr5))
              go_roundw
              case rel =>
                refine ⟨3, by omega, by go_num, (O4.out.block _ hrsb2 (Ne.symm hbsb)).trans HRN2.out, O1.out, fun m hm => ?_, HRB2.out.trans (O4.out.below (fun i hi e => by subst e; have := HBS.out; omega) HRB2.out.size), (O4.out.block _ (by have := HBS.out; omega) (Ne.symm hne)).trans HRC2.out, Nat.le_trans hrs2 O4.out.size, Nat.lt_of_lt_of_le hrsb2 O4.out.size⟩
                by_cases hm' : m < 6 + 2
                · exact O3.out _ (HRP2.out m hm')
                · obtain rfl : m = 8 := by omega
                  exact O2.out
              case measure => simp [intOf]
          · obtain rfl : j = 3 := by omega
            have hall : ∀ x ∈ tab, Pr b (sgv x.1 x.2.1) wr := fun x hx => by
              obtain ⟨m, hm, rfl⟩ := List.mem_iff_getElem.1 hx
              have := HRP2.out m hm
              simpa [List.getD, hm] using this
            have hget := map_get HRO2.out hall (s := s.data.toList) (by simpa using hs) HG.out
            have HGET := Lib.hid hget; clear hget hall
            go_wp2_with (first
              | ((with_reducible show wpList _ _ _ (Oper.mk _ (Op.load _ _) _ _ _ _ :: _) _ _); refine wpl_load_agg rfl 31 _ rfl TG ⟨w.heap.size, 0, none⟩ rfl (cs := cs.toList) (by simpa using hcsz) (cells_of_block HRC2.out) ?_)
              | ((with_reducible show wpList _ _ _ (Oper.mk _ (Op.build _ _) _ _ _ _ :: _) _ _); refine wpl_build rfl 44 _ rfl _ rfl (sgv s.data.toList g) (by have h := build44 s.data.toList g HG.out wr; rw [gvg.out, strOf_toList] at h; exact h) ?_)
              | ((with_reducible show wpList _ _ _ (Oper.mk _ (Op.lookup _ _ _ _) _ _ _ _ :: _) _ _); refine wpl_run rfl _ (exec_lookup rfl rfl rfl HGET.out) ?_))
            go_ret
            exact ⟨rfl, HRB2.out⟩
end Go.Proofs.Ytccelefolepmeaa
