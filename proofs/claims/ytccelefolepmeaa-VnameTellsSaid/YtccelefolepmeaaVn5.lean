/- The reference of package vname: contract of Kind. Conditions: a string of at most maxLen bytes, a guid of 16 bytes. -/
import Derived.Test.YtccelefolepmeaaVn4
namespace Go.Proofs.Ytccelefolepmeaa
open Go.RowKit
set_option linter.unusedVariables false

def nPK : List UInt8 := [80, 75]
def nKEK : List UInt8 := [75, 69, 75]
def nSetup : List UInt8 := [83, 101, 116, 117, 112, 77, 111, 100, 101]
def nSecure : List UInt8 := [83, 101, 99, 117, 114, 101, 66, 111, 111, 116]
def nAudit : List UInt8 := [65, 117, 100, 105, 116, 77, 111, 100, 101]
def nDeployed : List UInt8 := [68, 101, 112, 108, 111, 121, 101, 100, 77, 111, 100, 101]
def nDb : List UInt8 := [100, 98]
def nDbx : List UInt8 := [100, 98, 120]
def nDbt : List UInt8 := [100, 98, 116]
def kindF (n g : List UInt8) : Int :=
  if g = globalG then (if n = nPK then 1 else if n = nKEK then 2 else if n = nSetup ∨ n = nSecure ∨ n = nAudit ∨ n = nDeployed then 4 else 0)
  else if g = securityG ∧ (n = nDb ∨ n = nDbx ∨ n = nDbt) then 3 else 0
theorem globalG_ne : globalG ≠ securityG := by decide
theorem globalG_len : globalG.length = 16 := rfl
theorem securityG_len : securityG.length = 16 := rfl
theorem eqGuard31 : Try.prog.eqGuardType Try.prog.depth 31 = false := by kernel_rfl
theorem und31 : Try.prog.underlying 31 = some (.array 16 5) := by kernel_rfl
theorem cells31 : Try.prog.cellsOf 31 = 16 := by kernel_rfl
theorem cells5 : Try.prog.cellsOf 5 = 1 := by kernel_rfl
theorem key31 : Try.prog.keyTypeAt 2 31 = true := by kernel_rfl
theorem ret_u8 {a b : Int} (h : a = b) : Ending.returned (.int .u8 a) = .returned (.int .u8 b) := by rw [h]
theorem toList_beq (s : ByteArray) (l : List UInt8) : (s.toList == l) = decide (s.data.toList = l) := by
  rw [ByteArray.toList_eq]
  by_cases h : s.data.toList = l <;> simp [h]

theorem of_beq {s : ByteArray} {l : List UInt8} {b : Bool} (h : (s.toList == l) = b) : b = true ↔ s.data.toList = l := by
  rw [toList_beq] at h; subst h; simp
set_option maxHeartbeats 2000000 in
theorem refKind_spec (s : ByteArray) (g : List UInt8) (w : World) (hs : s.size ≤ maxLen) (hg : g.length = 16) :
    Calls Try.prog 21 #[.string s, gv g] w fun e w' => e = .returned (.int .u8 (kindF s.data.toList g)) ∧ Below w.heap.size w w' := by
  have hcs : (bvs g).toArray.size = 16 := by simp [hg]
  have HG := Lib.hid hg; clear hg
  obtain ⟨gq, hgq⟩ : ∃ gq, gq = gv g := ⟨_, rfl⟩
  have hgc : gq.cells.size = 16 := by rw [hgq]; exact hcs
  rw [← hgq]
  obtain ⟨cs, hcse⟩ : ∃ cs, gq = .agg cs ∧ cs = (bvs g).toArray := ⟨_, hgq, rfl⟩
  obtain ⟨hc1, hc2⟩ := hcse
  have HE := Lib.hid hc2; clear hc2 hgc
  have HQ := Lib.hid hgq; clear hgq
  have hcsz : cs.size = 16 := by rw [HE.out]; exact hcs
  rw [hc1]
  have HC1 := Lib.hid hc1; clear hc1 hcs
  have hblk : Hid (∀ w2, Below (w.alloc (.cells cs 31)).heap.size (w.alloc (.cells cs 31)).drew w2 → w2.heap[w.heap.size]? = some (.cells cs 31)) := fun w2 h => (h.block _ (by simp)).trans (heap_alloc_new w _)
  go_enter Try.func21, Try.ntmps21
  go_wp2_with fail
  have gvg : Hid (gv g = .agg cs) := by show _ = _; rw [← HQ.out, HC1.out]
  have ld : ∀ w2 : World, w2.heap[w.heap.size]? = some (.cells cs 31) → (loadVar 31 ⟨w.heap.size, 0, none⟩).run Try.prog w2 = .ok (gv g) w2 := fun w2 h => by
    rw [gvg.out]
    have := run_loadVar_at TG (w := w2) (ad := ⟨w.heap.size, 0, none⟩) (cs := cs.toList) (by simpa using hcsz) (cells_of_block h)
    simpa using this
  have LD := Lib.hid ld; clear ld
  refine wp_region_rw (by kernel_rfl) (by kernel_rfl) (by kernel_rfl) (fun x y => Below (w.alloc (.cells cs 31)).heap.size x y) [gv g, gv globalG, .bool (decide (g = globalG))] rfl (fun _ _ => True) (Below.refl _ _) (fun x y z h1 h2 => h1.trans h2) (fun _ _ _ _ _ _ _ => trivial) ?_ ?_
  · intro i op ho x w2 hG hdep hown
    match i, ho with
    | 0, ho => obtain rfl := Option.some.inj ho; exact .inl ⟨rfl, wpv_run (exec_load (x := .tmp 3) rfl ((hown 3 (by kernel_rfl)).trans rfl) (LD.out _ (hblk.out w2 hG))) rfl ⟨rfl, Below.refl _ _, trivial⟩⟩
    | 1, ho =>
      obtain rfl := Option.some.inj ho
      refine .inl ⟨rfl, wpv_call rfl Try.call10 (args := #[]) (by simp) ?_⟩
      refine (refGlobal_spec w2).mono ?_
      rintro e w3 ⟨rfl, hb⟩
      exact ⟨_, rfl, rfl, hb.mono hG.size, trivial⟩
    | 2, ho =>
      obtain rfl := Option.some.inj ho
      exact .inl ⟨rfl, wpv_run (exec_eql_bytes (x := .tmp 5) (y := .tmp 6) rfl eqGuard31 und31 Try.underlying5 cells31 cells5 key31 ((hdep 0 (by kernel_rfl)).2 5 rfl) ((hdep 1 (by kernel_rfl)).2 6 rfl) HG.out rfl) rfl ⟨rfl, Below.refl _ _, trivial⟩⟩
    | i + 3, ho => simp at ho
  · intro w2 hG _
    simp only [List.map_cons, List.map_nil, putZ, Act.put, List.setIfInBounds_toArray, List.set_cons_succ, List.set_cons_zero]
    have hB2 : Below w.heap.size w w2 := (((Below.refl _ w).alloc (Nat.le_refl _) (.cells cs 31)).drew).trans (hG.mono (by simp))
    have HB2 := Lib.hid hB2; clear hB2
    have HG2 := Lib.hid hG; clear hG
    by_cases hgl : g = globalG
    · have hd : decide (g = globalG) = true := by simp [hgl]
      rw [hd]
      have hns : g ≠ securityG := by rw [hgl]; exact globalG_ne
      have HNS := Lib.hid hns; clear hns
      have HGL := Lib.hid hgl; clear hgl hd
      cases h0 : (s.toList == [80, 75])
      case true =>
        have X : Hid (s.data.toList = nPK) := (of_beq h0).1 rfl
        go_wp2_with fail
        go_ret
        refine ⟨ret_u8 ?_, HB2.out⟩
        rw [X.out, HGL.out]; rfl
      cases h1 : (s.toList == [75, 69, 75])
      case true =>
        have X : Hid (s.data.toList = nKEK) := (of_beq h1).1 rfl
        go_wp2_with fail
        go_ret
        refine ⟨ret_u8 ?_, HB2.out⟩
        rw [X.out, HGL.out]; rfl
      cases h2 : (s.toList == [83, 101, 116, 117, 112, 77, 111, 100, 101])
      case true =>
        have X : Hid (s.data.toList = nSetup) := (of_beq h2).1 rfl
        go_wp2_with fail
        go_ret
        refine ⟨ret_u8 ?_, HB2.out⟩
        rw [X.out, HGL.out]; rfl
      cases h3 : (s.toList == [83, 101, 99, 117, 114, 101, 66, 111, 111, 116])
      case true =>
        have X : Hid (s.data.toList = nSecure) := (of_beq h3).1 rfl
        go_wp2_with fail
        go_ret
        refine ⟨ret_u8 ?_, HB2.out⟩
        rw [X.out, HGL.out]; rfl
      cases h4 : (s.toList == [65, 117, 100, 105, 116, 77, 111, 100, 101])
      case true =>
        have X : Hid (s.data.toList = nAudit) := (of_beq h4).1 rfl
        go_wp2_with fail
        go_ret
        refine ⟨ret_u8 ?_, HB2.out⟩
        rw [X.out, HGL.out]; rfl
      cases h5 : (s.toList == [68, 101, 112, 108, 111, 121, 101, 100, 77, 111, 100, 101])
      case true =>
        have X : Hid (s.data.toList = nDeployed) := (of_beq h5).1 rfl
        go_wp2_with fail
        go_ret
        refine ⟨ret_u8 ?_, HB2.out⟩
        rw [X.out, HGL.out]; rfl
      go_wp2_with fail
      refine wp_region_rw (by kernel_rfl) (by kernel_rfl) (by kernel_rfl) (fun x y => Below (w.alloc (.cells cs 31)).heap.size x y) [gv g, gv securityG, .bool false, .bool false, undef, undef, undef, undef, undef, undef, undef, undef, undef, undef, .bool false] rfl (fun _ _ => True) (Below.refl _ _) (fun x y z h1 h2 => h1.trans h2) (fun _ _ _ _ _ _ _ => trivial) ?_ ?_
      · intro i op ho x w3 hG3 hdep hown
        have hG4 := HG2.out.trans (Below.drew (Below.refl _ _) |>.trans hG3)
        match i, ho with
        | 0, ho => obtain rfl := Option.some.inj ho; exact .inl ⟨rfl, wpv_run (exec_load (x := .tmp 3) rfl ((hown 3 (by kernel_rfl)).trans rfl) (LD.out _ (hblk.out w3 hG4))) rfl ⟨rfl, Below.refl _ _, trivial⟩⟩
        | 1, ho =>
          obtain rfl := Option.some.inj ho
          refine .inl ⟨rfl, wpv_call rfl Try.call11 (args := #[]) (by simp) ?_⟩
          refine (refSecurity_spec w3).mono ?_
          rintro e w4 ⟨rfl, hb⟩
          exact ⟨_, rfl, rfl, hb.mono hG4.size, trivial⟩
        | 2, ho =>
          obtain rfl := Option.some.inj ho
          exact .inl ⟨rfl, wpv_run (exec_eql_bytes (x := .tmp 18) (y := .tmp 19) rfl eqGuard31 und31 Try.underlying5 cells31 cells5 key31 ((hdep 0 (by kernel_rfl)).2 18 rfl) ((hdep 1 (by kernel_rfl)).2 19 rfl) HG.out rfl) (by simp [HNS.out]) ⟨rfl, Below.refl _ _, trivial⟩⟩
        | 3, ho => obtain rfl := Option.some.inj ho; exact .inl ⟨rfl, wpv_run (exec_move (x := .tmp 20) rfl ((hdep 2 (by kernel_rfl)).2 20 rfl)) rfl ⟨rfl, Below.refl _ _, trivial⟩⟩
        | 4, ho => obtain rfl := Option.some.inj ho; exact .inr ⟨wanted_no rfl (by rw [yielded_bool (d := 21) rfl ((hdep 3 (by kernel_rfl)).2 21 rfl)]; simp), rfl, Below.refl _ _, trivial⟩
        | 5, ho => obtain rfl := Option.some.inj ho; exact .inr ⟨wanted_no rfl (by rw [yielded_bool (d := 21) rfl ((hdep 3 (by kernel_rfl)).2 21 rfl)]; simp), rfl, Below.refl _ _, trivial⟩
        | 6, ho => obtain rfl := Option.some.inj ho; exact .inr ⟨wanted_no rfl (by rw [yielded_bool (d := 21) rfl ((hdep 3 (by kernel_rfl)).2 21 rfl)]; simp), rfl, Below.refl _ _, trivial⟩
        | 7, ho => obtain rfl := Option.some.inj ho; exact .inr ⟨wanted_no rfl (by rw [yielded_undef (d := 24) rfl ((hdep 6 (by kernel_rfl)).2 24 rfl)]; simp), rfl, Below.refl _ _, trivial⟩
        | 8, ho => obtain rfl := Option.some.inj ho; exact .inr ⟨wanted_no rfl (by rw [yielded_undef (d := 24) rfl ((hdep 6 (by kernel_rfl)).2 24 rfl)]; simp), rfl, Below.refl _ _, trivial⟩
        | 9, ho => obtain rfl := Option.some.inj ho; exact .inr ⟨wanted_no rfl (by rw [yielded_bool (d := 21) rfl ((hdep 3 (by kernel_rfl)).2 21 rfl)]; simp), rfl, Below.refl _ _, trivial⟩
        | 10, ho => obtain rfl := Option.some.inj ho; exact .inr ⟨wanted_no rfl (by rw [yielded_bool (d := 21) rfl ((hdep 3 (by kernel_rfl)).2 21 rfl)]; simp), rfl, Below.refl _ _, trivial⟩
        | 11, ho => obtain rfl := Option.some.inj ho; exact .inr ⟨wanted_no rfl (by rw [yielded_undef (d := 28) rfl ((hdep 10 (by kernel_rfl)).2 28 rfl)]; simp), rfl, Below.refl _ _, trivial⟩
        | 12, ho => obtain rfl := Option.some.inj ho; exact .inr ⟨wanted_no rfl (by rw [yielded_undef (d := 28) rfl ((hdep 10 (by kernel_rfl)).2 28 rfl)]; simp), rfl, Below.refl _ _, trivial⟩
        | 13, ho => obtain rfl := Option.some.inj ho; exact .inr ⟨wanted_no rfl (by rw [yielded_bool (d := 21) rfl ((hdep 3 (by kernel_rfl)).2 21 rfl)]; simp), rfl, Below.refl _ _, trivial⟩
        | 14, ho => obtain rfl := Option.some.inj ho; exact .inl ⟨rfl, wpv_run (exec_pick (c := .tmp 21) (x := .tmp 31) (y := .const (.bool false)) rfl ((hdep 3 (by kernel_rfl)).2 21 rfl) rfl) rfl ⟨rfl, Below.refl _ _, trivial⟩⟩
        | i + 15, ho => simp at ho
      · intro w3 hG3 _
        simp only [List.map_cons, List.map_nil, putZ, Act.put, List.setIfInBounds_toArray, List.set_cons_succ, List.set_cons_zero]
        have HB3 : Below w.heap.size w w3 := HB2.out.drew.trans (hG3.mono (by simp))
        go_wp2_with fail
        go_ret
        refine ⟨ret_u8 ?_, HB3⟩
        unfold kindF
        rw [if_pos HGL.out, if_neg (fun h => by have := (of_beq h0).2 h; cases this), if_neg (fun h => by have := (of_beq h1).2 h; cases this), if_neg]
        rintro (h | h | h | h)
        · have := (of_beq h2).2 h; cases this
        · have := (of_beq h3).2 h; cases this
        · have := (of_beq h4).2 h; cases this
        · have := (of_beq h5).2 h; cases this
    · have hd : decide (g = globalG) = false := by simp [hgl]
      rw [hd]
      have HNG := Lib.hid hgl; clear hgl hd
      by_cases hsec : g = securityG
      · have HS := Lib.hid hsec; clear hsec
        obtain ⟨b1, h1⟩ : ∃ b, (s.toList == nDb) = b := ⟨_, rfl⟩
        obtain ⟨b2, h2⟩ : ∃ b, (s.toList == nDbx) = b := ⟨_, rfl⟩
        obtain ⟨b3, h3⟩ : ∃ b, (s.toList == nDbt) = b := ⟨_, rfl⟩
        have H1 := Lib.hid h1; clear h1
        have H2 := Lib.hid h2; clear h2
        have H3 := Lib.hid h3; clear h3
        go_wp2_with fail
        refine wp_region_rw (by kernel_rfl) (by kernel_rfl) (by kernel_rfl) (fun x y => Below (w.alloc (.cells cs 31)).heap.size x y) [gv g, gv securityG, .bool true, .bool true, .string s, .bool b1, .bool b1, if b1 then undef else .string s, if b1 then undef else .bool b2, .bool (b1 || b2), .bool (b1 || b2), if b1 || b2 then undef else .string s, if b1 || b2 then undef else .bool b3, .bool (b1 || b2 || b3), .bool (b1 || b2 || b3)] rfl (fun _ _ => True) (Below.refl _ _) (fun x y z h1 h2 => h1.trans h2) (fun _ _ _ _ _ _ _ => trivial) ?_ ?_
        · intro i op ho x w3 hG3 hdep hown
          have hG4 := HG2.out.trans (Below.drew (Below.refl _ _) |>.trans hG3)
          match i, ho with
          | 0, ho => obtain rfl := Option.some.inj ho; exact .inl ⟨rfl, wpv_run (exec_load (x := .tmp 3) rfl ((hown 3 (by kernel_rfl)).trans rfl) (LD.out _ (hblk.out w3 hG4))) rfl ⟨rfl, Below.refl _ _, trivial⟩⟩
          | 1, ho =>
            obtain rfl := Option.some.inj ho
            refine .inl ⟨rfl, wpv_call rfl Try.call11 (args := #[]) (by simp) ?_⟩
            refine (refSecurity_spec w3).mono ?_
            rintro e w4 ⟨rfl, hb⟩
            exact ⟨_, rfl, rfl, hb.mono hG4.size, trivial⟩
          | 2, ho =>
            obtain rfl := Option.some.inj ho
            exact .inl ⟨rfl, wpv_run (exec_eql_bytes (x := .tmp 18) (y := .tmp 19) rfl eqGuard31 und31 Try.underlying5 cells31 cells5 key31 ((hdep 0 (by kernel_rfl)).2 18 rfl) ((hdep 1 (by kernel_rfl)).2 19 rfl) HG.out rfl) (by simp [HS.out]) ⟨rfl, Below.refl _ _, trivial⟩⟩
          | 3, ho => obtain rfl := Option.some.inj ho; exact .inl ⟨rfl, wpv_run (exec_move (x := .tmp 20) rfl ((hdep 2 (by kernel_rfl)).2 20 rfl)) rfl ⟨rfl, Below.refl _ _, trivial⟩⟩
          | 4, ho => obtain rfl := Option.some.inj ho; exact .inl ⟨wanted_yes rfl (yielded_bool (d := 21) rfl ((hdep 3 (by kernel_rfl)).2 21 rfl)), wpv_run (exec_move (x := .tmp 0) rfl ((hown 0 (by kernel_rfl)).trans rfl)) rfl ⟨rfl, Below.refl _ _, trivial⟩⟩
          | 5, ho => obtain rfl := Option.some.inj ho; exact .inl ⟨wanted_yes rfl (yielded_bool (d := 21) rfl ((hdep 3 (by kernel_rfl)).2 21 rfl)), wpv_run (exec_eql_str (x := .tmp 22) (y := .const (.string ⟨#[100, 98]⟩)) rfl ((hdep 4 (by kernel_rfl)).2 22 rfl) rfl) (by rw [show (ByteArray.mk #[100, 98]).toList = nDb from ByteArray.toList_mk _, H1.out]; rfl) ⟨rfl, Below.refl _ _, trivial⟩⟩
          | 6, ho => obtain rfl := Option.some.inj ho; exact .inl ⟨wanted_yes rfl (yielded_bool (d := 21) rfl ((hdep 3 (by kernel_rfl)).2 21 rfl)), wpv_run (exec_move (x := .tmp 23) rfl ((hdep 5 (by kernel_rfl)).2 23 rfl)) rfl ⟨rfl, Below.refl _ _, trivial⟩⟩
          | 7, ho =>
            obtain rfl := Option.some.inj ho
            have hy := (hdep 6 (by kernel_rfl)).2 24 rfl
            cases b1
            · exact .inl ⟨wanted_yes rfl (yielded_bool (d := 24) rfl hy), wpv_run (exec_move (x := .tmp 0) rfl ((hown 0 (by kernel_rfl)).trans rfl)) rfl ⟨rfl, Below.refl _ _, trivial⟩⟩
            · exact .inr ⟨wanted_no rfl (by rw [yielded_bool (d := 24) rfl hy]; simp), rfl, Below.refl _ _, trivial⟩
          | 8, ho =>
            obtain rfl := Option.some.inj ho
            have hy := (hdep 6 (by kernel_rfl)).2 24 rfl
            have h7 := (hdep 7 (by kernel_rfl)).2 25 rfl
            cases b1
            · exact .inl ⟨wanted_yes rfl (yielded_bool (d := 24) rfl hy), wpv_run (exec_eql_str (x := .tmp 25) (y := .const (.string ⟨#[100, 98, 120]⟩)) rfl h7 rfl) (by rw [show (ByteArray.mk #[100, 98, 120]).toList = nDbx from ByteArray.toList_mk _, H2.out]; rfl) ⟨rfl, Below.refl _ _, trivial⟩⟩
            · exact .inr ⟨wanted_no rfl (by rw [yielded_bool (d := 24) rfl hy]; simp), rfl, Below.refl _ _, trivial⟩
          | 9, ho =>
            obtain rfl := Option.some.inj ho
            have h8 := (hdep 8 (by kernel_rfl)).2 26 rfl
            exact .inl ⟨wanted_yes rfl (yielded_bool (d := 21) rfl ((hdep 3 (by kernel_rfl)).2 21 rfl)), wpv_run (exec_pick (c := .tmp 24) (x := .const (.bool true)) (y := .tmp 26) rfl ((hdep 6 (by kernel_rfl)).2 24 rfl) rfl) (by cases b1; exact h8; rfl) ⟨rfl, Below.refl _ _, trivial⟩⟩
          | 10, ho => obtain rfl := Option.some.inj ho; exact .inl ⟨wanted_yes rfl (yielded_bool (d := 21) rfl ((hdep 3 (by kernel_rfl)).2 21 rfl)), wpv_run (exec_move (x := .tmp 27) rfl ((hdep 9 (by kernel_rfl)).2 27 rfl)) rfl ⟨rfl, Below.refl _ _, trivial⟩⟩
          | 11, ho =>
            obtain rfl := Option.some.inj ho
            have hy := (hdep 10 (by kernel_rfl)).2 28 rfl
            cases hb : (b1 || b2)
            · exact .inl ⟨wanted_yes rfl (yielded_bool (d := 28) (b := false) rfl (hy.trans (by simp [hb]))), wpv_run (exec_move (x := .tmp 0) rfl ((hown 0 (by kernel_rfl)).trans rfl)) (by simp) ⟨rfl, Below.refl _ _, trivial⟩⟩
            · exact .inr ⟨wanted_no rfl (by rw [yielded_bool (d := 28) (b := true) rfl (hy.trans (by simp [hb]))]; simp), by simp, Below.refl _ _, trivial⟩
          | 12, ho =>
            obtain rfl := Option.some.inj ho
            have hy := (hdep 10 (by kernel_rfl)).2 28 rfl
            have h11 := (hdep 11 (by kernel_rfl)).2 29 rfl
            cases hb : (b1 || b2)
            · refine .inl ⟨wanted_yes rfl (yielded_bool (d := 28) (b := false) rfl (hy.trans (by simp [hb]))), wpv_run (exec_eql_str (x := .tmp 29) (y := .const (.string ⟨#[100, 98, 116]⟩)) (a := s) rfl (h11.trans (by simp [hb])) rfl) ?_ ⟨rfl, Below.refl _ _, trivial⟩⟩
              have h3 := H3.out
              simp
              exact h3
            · exact .inr ⟨wanted_no rfl (by rw [yielded_bool (d := 28) (b := true) rfl (hy.trans (by simp [hb]))]; simp), by simp, Below.refl _ _, trivial⟩
          | 13, ho =>
            obtain rfl := Option.some.inj ho
            have h12 := (hdep 12 (by kernel_rfl)).2 30 rfl
            refine .inl ⟨wanted_yes rfl (yielded_bool (d := 21) rfl ((hdep 3 (by kernel_rfl)).2 21 rfl)), wpv_run (exec_pick (c := .tmp 28) (x := .const (.bool true)) (y := .tmp 30) rfl ((hdep 10 (by kernel_rfl)).2 28 rfl) rfl) ?_ ⟨rfl, Below.refl _ _, trivial⟩⟩
            cases hb : (b1 || b2)
            · refine h12.trans ?_; simp [hb]
            · simp; rfl
          | 14, ho => obtain rfl := Option.some.inj ho; exact .inl ⟨rfl, wpv_run (exec_pick (c := .tmp 21) (x := .tmp 31) (y := .const (.bool false)) rfl ((hdep 3 (by kernel_rfl)).2 21 rfl) rfl) (by exact (hdep 13 (by kernel_rfl)).2 31 rfl) ⟨rfl, Below.refl _ _, trivial⟩⟩
          | i + 15, ho => simp at ho
        · intro w3 hG3 _
          simp only [List.map_cons, List.map_nil, putZ, Act.put, List.setIfInBounds_toArray, List.set_cons_succ, List.set_cons_zero]
          have HB3 : Below w.heap.size w w3 := HB2.out.drew.trans (hG3.mono (by simp))
          have n1 := of_beq H1.out
          have n2 := of_beq H2.out
          have n3 := of_beq H3.out
          have N1 := Lib.hid n1; clear n1
          have N2 := Lib.hid n2; clear n2
          have N3 := Lib.hid n3; clear n3
          cases b1 <;> cases b2 <;> cases b3
          all_goals
            go_wp2_with fail
            go_ret
            refine ⟨ret_u8 ?_, HB3⟩
            unfold kindF
            rw [if_neg HNG.out]
          · rw [if_neg]
            rintro ⟨_, h | h | h⟩
            · cases N1.out.2 h
            · cases N2.out.2 h
            · cases N3.out.2 h
          · rw [if_pos ⟨HS.out, .inr (.inr (N3.out.1 (by simp)))⟩]
          · rw [if_pos ⟨HS.out, .inr (.inl (N2.out.1 (by simp)))⟩]
          · rw [if_pos ⟨HS.out, .inr (.inl (N2.out.1 (by simp)))⟩]
          all_goals rw [if_pos ⟨HS.out, .inl (N1.out.1 (by simp))⟩]
      · have HNS := Lib.hid hsec; clear hsec
        go_wp2_with fail
        refine wp_region_rw (by kernel_rfl) (by kernel_rfl) (by kernel_rfl) (fun x y => Below (w.alloc (.cells cs 31)).heap.size x y) [gv g, gv securityG, .bool false, .bool false, undef, undef, undef, undef, undef, undef, undef, undef, undef, undef, .bool false] rfl (fun _ _ => True) (Below.refl _ _) (fun x y z h1 h2 => h1.trans h2) (fun _ _ _ _ _ _ _ => trivial) ?_ ?_
        · intro i op ho x w3 hG3 hdep hown
          have hG4 := HG2.out.trans (Below.drew (Below.refl _ _) |>.trans hG3)
          match i, ho with
          | 0, ho => obtain rfl := Option.some.inj ho; exact .inl ⟨rfl, wpv_run (exec_load (x := .tmp 3) rfl ((hown 3 (by kernel_rfl)).trans rfl) (LD.out _ (hblk.out w3 hG4))) rfl ⟨rfl, Below.refl _ _, trivial⟩⟩
          | 1, ho =>
            obtain rfl := Option.some.inj ho
            refine .inl ⟨rfl, wpv_call rfl Try.call11 (args := #[]) (by simp) ?_⟩
            refine (refSecurity_spec w3).mono ?_
            rintro e w4 ⟨rfl, hb⟩
            exact ⟨_, rfl, rfl, hb.mono hG4.size, trivial⟩
          | 2, ho =>
            obtain rfl := Option.some.inj ho
            exact .inl ⟨rfl, wpv_run (exec_eql_bytes (x := .tmp 18) (y := .tmp 19) rfl eqGuard31 und31 Try.underlying5 cells31 cells5 key31 ((hdep 0 (by kernel_rfl)).2 18 rfl) ((hdep 1 (by kernel_rfl)).2 19 rfl) HG.out rfl) (by simp [HNS.out]) ⟨rfl, Below.refl _ _, trivial⟩⟩
          | 3, ho => obtain rfl := Option.some.inj ho; exact .inl ⟨rfl, wpv_run (exec_move (x := .tmp 20) rfl ((hdep 2 (by kernel_rfl)).2 20 rfl)) rfl ⟨rfl, Below.refl _ _, trivial⟩⟩
          | 4, ho => obtain rfl := Option.some.inj ho; exact .inr ⟨wanted_no rfl (by rw [yielded_bool (d := 21) rfl ((hdep 3 (by kernel_rfl)).2 21 rfl)]; simp), rfl, Below.refl _ _, trivial⟩
          | 5, ho => obtain rfl := Option.some.inj ho; exact .inr ⟨wanted_no rfl (by rw [yielded_bool (d := 21) rfl ((hdep 3 (by kernel_rfl)).2 21 rfl)]; simp), rfl, Below.refl _ _, trivial⟩
          | 6, ho => obtain rfl := Option.some.inj ho; exact .inr ⟨wanted_no rfl (by rw [yielded_bool (d := 21) rfl ((hdep 3 (by kernel_rfl)).2 21 rfl)]; simp), rfl, Below.refl _ _, trivial⟩
          | 7, ho => obtain rfl := Option.some.inj ho; exact .inr ⟨wanted_no rfl (by rw [yielded_undef (d := 24) rfl ((hdep 6 (by kernel_rfl)).2 24 rfl)]; simp), rfl, Below.refl _ _, trivial⟩
          | 8, ho => obtain rfl := Option.some.inj ho; exact .inr ⟨wanted_no rfl (by rw [yielded_undef (d := 24) rfl ((hdep 6 (by kernel_rfl)).2 24 rfl)]; simp), rfl, Below.refl _ _, trivial⟩
          | 9, ho => obtain rfl := Option.some.inj ho; exact .inr ⟨wanted_no rfl (by rw [yielded_bool (d := 21) rfl ((hdep 3 (by kernel_rfl)).2 21 rfl)]; simp), rfl, Below.refl _ _, trivial⟩
          | 10, ho => obtain rfl := Option.some.inj ho; exact .inr ⟨wanted_no rfl (by rw [yielded_bool (d := 21) rfl ((hdep 3 (by kernel_rfl)).2 21 rfl)]; simp), rfl, Below.refl _ _, trivial⟩
          | 11, ho => obtain rfl := Option.some.inj ho; exact .inr ⟨wanted_no rfl (by rw [yielded_undef (d := 28) rfl ((hdep 10 (by kernel_rfl)).2 28 rfl)]; simp), rfl, Below.refl _ _, trivial⟩
          | 12, ho => obtain rfl := Option.some.inj ho; exact .inr ⟨wanted_no rfl (by rw [yielded_undef (d := 28) rfl ((hdep 10 (by kernel_rfl)).2 28 rfl)]; simp), rfl, Below.refl _ _, trivial⟩
          | 13, ho => obtain rfl := Option.some.inj ho; exact .inr ⟨wanted_no rfl (by rw [yielded_bool (d := 21) rfl ((hdep 3 (by kernel_rfl)).2 21 rfl)]; simp), rfl, Below.refl _ _, trivial⟩
          | 14, ho => obtain rfl := Option.some.inj ho; exact .inl ⟨rfl, wpv_run (exec_pick (c := .tmp 21) (x := .tmp 31) (y := .const (.bool false)) rfl ((hdep 3 (by kernel_rfl)).2 21 rfl) rfl) rfl ⟨rfl, Below.refl _ _, trivial⟩⟩
          | i + 15, ho => simp at ho
        · intro w3 hG3 _
          simp only [List.map_cons, List.map_nil, putZ, Act.put, List.setIfInBounds_toArray, List.set_cons_succ, List.set_cons_zero]
          have HB3 : Below w.heap.size w w3 := HB2.out.drew.trans (hG3.mono (by simp))
          go_wp2_with fail
          go_ret

          refine ⟨ret_u8 ?_, HB3⟩
          unfold kindF
          rw [if_neg HNG.out, if_neg (fun h => HNS.out h.1)]
end Go.Proofs.Ytccelefolepmeaa
