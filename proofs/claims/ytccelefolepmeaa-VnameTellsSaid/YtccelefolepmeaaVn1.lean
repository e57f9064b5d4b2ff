/- Package vname and its reference: contracts of Right, Global, Security, Fits and same. Conditions: strings of at most maxLen bytes; slices that read as bytes. -/
import Derived.Test.YtccelefolepmeaaLb
import Derived.Test.YtccelefolepmeaaEq
import Derived.Test.YtccelefolepmeaaRows
import Derived.Outline
import Derived.Lib.Hide
namespace Go.Proofs.Ytccelefolepmeaa
open Go.RowKit
set_option linter.unusedVariables false

theorem TB : SlTy Try.prog 28 5 1 1 (.int .u8 0) := ⟨Try.underlying28, by kernel_rfl, rfl⟩

def okC (c : UInt8) : Bool := decide (33 ≤ (c.toNat : Int)) && decide ((c.toNat : Int) ≤ 126)
def rightB (l : List UInt8) : Bool := l.all okC && decide (1 ≤ l.length) && decide (l.length ≤ 64)
theorem okC_bad {c : UInt8} (h : (c.toNat : Int) < 33 ∨ 126 < (c.toNat : Int)) : okC c = false := by
  unfold okC; rcases h with h | h
  · simp [show ¬ 33 ≤ (c.toNat : Int) by omega]
  · simp [show ¬ (c.toNat : Int) ≤ 126 by omega]
theorem okC_good {c : UInt8} (h : 33 ≤ (c.toNat : Int)) (h' : (c.toNat : Int) ≤ 126) : okC c = true := by
  unfold okC; simp only [h, h', decide_true, Bool.and_true]
theorem rightB_bad {l : List UInt8} {k : Nat} {x : UInt8} (h : k < l.length) (hx : x = l.getD k 0) (hb : (x.toNat : Int) < 33 ∨ 126 < (x.toNat : Int)) : rightB l = false := by
  have : l.all okC = false := by
    rw [List.all_eq_false]
    refine ⟨x, ?_, by simp [okC_bad hb]⟩
    rw [hx]; simp [List.getD, h]
  simp [rightB, this]
theorem all_snoc {l : List UInt8} {k : Nat} {x : UInt8} (h : k < l.length) (hx : x = l.getD k 0) (ha : (l.take k).all okC = true) (h1 : 33 ≤ (x.toNat : Int)) (h2 : (x.toNat : Int) ≤ 126) : (l.take (k + 1)).all okC = true := by
  rw [List.take_succ_eq_append_getElem h, List.all_append, ha]
  have : l[k] = x := by rw [hx]; simp [List.getD, h]
  simp [this, okC_good h1 h2]
theorem rightB_all {l : List UInt8} {n : Nat} (hn : l.length = n) (ha : (l.take n).all okC = true) : rightB l = (decide ((1 : Int) ≤ (n : Int)) && decide ((n : Int) ≤ 64)) := by
  rw [List.take_of_length_le (by omega)] at ha
  unfold rightB
  rw [ha, hn, Bool.true_and]
  have e1 : decide (1 ≤ n) = decide ((1 : Int) ≤ (n : Int)) := by rw [decide_eq_decide]; omega
  have e2 : decide (n ≤ 64) = decide ((n : Int) ≤ 64) := by rw [decide_eq_decide]; omega
  rw [e1, e2]
theorem ret_bool {a b : Bool} (h : a = b) : Ending.returned (.bool a) = .returned (.bool b) := by rw [h]
theorem getElem_data (s : ByteArray) {k : Nat} (h : k < s.size) : s[k] = s.data.toList.getD k 0 := by
  have : k < s.data.toList.length := by simpa using h
  simp [List.getD, h]; rfl

set_option maxHeartbeats 400000 in
theorem right_spec (s : ByteArray) (w : World) (hs : s.size ≤ maxLen) :
    Calls Try.prog 9 #[.string s] w fun e w' => e = .returned (.bool (rightB s.data.toList)) ∧ Below w.heap.size w w' := by
  unfold maxLen at hs
  have hsz : s.data.toList.length = s.size := by simp
  go_enter Try.func9, Try.ntmps9
  go_wp2_with ((with_reducible show wpList _ _ _ (Oper.mk _ (Op.convert _ _ _) _ _ _ _ :: _) _ _); refine wpl_str_bytes rfl _ 9 28 rfl Try.underlying9 Try.underlying28 Try.underlying5 s rfl hs ?_; intro cap w1 hown hcell hb hsz1)
  obtain ⟨l, hl⟩ : ∃ l, l = s.data.toList := ⟨_, rfl⟩
  rw [← hl] at hsz hcell
  have hcell' : ∀ k, k < s.size → w1.cell? ⟨w.heap.size, k, none⟩ = some (.int .u8 ((l.getD k 0).toNat)) := fun k h => by
    have := hcell k _ (bvs_get (l := l) (by omega)); simpa [List.getD, show k < l.length by omega] using this
  have HB := Lib.hid hb; clear hb hown hcell hsz1
  have HC := Lib.hid hcell'; clear hcell'
  have HS := Lib.hid hsz; clear hsz
  have HL := Lib.hid hl; clear hl
  go_loop [8] (fun i => ∃ k : Nat, k ≤ s.size ∧ i = .int .i64 k ∧ (l.take k).all okC = true) (fun i => s.size - (intOf i).toNat)
  case atStart => exact ⟨0, Nat.zero_le _, rfl, by simp⟩
  case round =>
    obtain ⟨k, hk, rfl, hall⟩ := hrel
    have HA := Lib.hid hall; clear hall
    by_cases hlt : k < s.size
    · have hc := HC.out k hlt
      obtain ⟨x, hx⟩ : ∃ x, x = l.getD k 0 := ⟨_, rfl⟩
      rw [← hx] at hc
      have HX := Lib.hid hx; clear hx
      go_wp2
      · go_ret
        exact ⟨ret_bool (by rw [← HL.out, rightB_bad (k := k) (by rw [HS.out]; exact hlt) HX.out (by omega)]), HB.out⟩
      · go_round
        case rel => exact ⟨k + 1, by omega, by go_num, all_snoc (by rw [HS.out]; exact hlt) HX.out HA.out (by omega) (by omega)⟩
        case measure => simp [intOf]; omega
      · go_ret
        exact ⟨ret_bool (by rw [← HL.out, rightB_bad (k := k) (by rw [HS.out]; exact hlt) HX.out (by omega)]), HB.out⟩
    · obtain rfl : k = s.size := by omega
      go_wp2
      · go_ret
        exact ⟨ret_bool (by rw [← HL.out, rightB_all HS.out HA.out, decide_eq_true (show (1 : Int) ≤ (s.size : Int) by omega)]; rfl), HB.out⟩
      · go_ret
        exact ⟨ret_bool (by rw [← HL.out, rightB_all HS.out HA.out, decide_eq_false (show ¬ (1 : Int) ≤ (s.size : Int) by omega)]; rfl), HB.out⟩

set_option maxHeartbeats 400000 in
theorem refRight_spec (s : ByteArray) (w : World) (hs : s.size ≤ maxLen) :
    Calls Try.prog 17 #[.string s] w fun e w' => e = .returned (.bool (rightB s.data.toList)) ∧ w = w' := by
  unfold maxLen at hs
  obtain ⟨l, hl⟩ : ∃ l, l = s.data.toList := ⟨_, rfl⟩
  have hsz : l.length = s.size := by rw [hl]; simp
  have HS := Lib.hid hsz; clear hsz
  have HL := Lib.hid hl; clear hl
  go_enter Try.func17, Try.ntmps17
  go_wp2
  go_loop [3] (fun i => ∃ k : Nat, k ≤ s.size ∧ i = .int .i64 k ∧ (l.take k).all okC = true) (fun i => s.size - (intOf i).toNat)
  case atStart => exact ⟨0, Nat.zero_le _, rfl, by simp⟩
  case round =>
    obtain ⟨k, hk, rfl, hall⟩ := hrel
    have HA := Lib.hid hall; clear hall
    by_cases hlt : k < s.size
    · have HX : Hid (s[k] = l.getD k 0) := by rw [HL.out]; exact getElem_data s hlt
      go_wp2
      · go_ret
        exact ⟨ret_bool (by rw [← HL.out, rightB_bad (k := k) (by rw [HS.out]; exact hlt) HX.out (by omega)]), rfl⟩
      · go_round
        case rel => exact ⟨k + 1, by omega, by go_num, all_snoc (by rw [HS.out]; exact hlt) HX.out HA.out (by omega) (by omega)⟩
        case measure => simp [intOf]; omega
      · go_ret
        exact ⟨ret_bool (by rw [← HL.out, rightB_bad (k := k) (by rw [HS.out]; exact hlt) HX.out (by omega)]), rfl⟩
    · obtain rfl : k = s.size := by omega
      go_wp2
      · go_ret
        exact ⟨ret_bool (by rw [← HL.out, rightB_all HS.out HA.out, decide_eq_true (show (1 : Int) ≤ (s.size : Int) by omega)]; rfl), rfl⟩
      · go_ret
        exact ⟨ret_bool (by rw [← HL.out, rightB_all HS.out HA.out, decide_eq_false (show ¬ (1 : Int) ≤ (s.size : Int) by omega)]; rfl), rfl⟩

def globalG : List UInt8 := [0x61, 0xdf, 0xe4, 0x8b, 0xca, 0x93, 0xd2, 0x11, 0xaa, 0x0d, 0x00, 0xe0, 0x98, 0x03, 0x2b, 0x8c]
def securityG : List UInt8 := [0xcb, 0xb2, 0x19, 0xd7, 0x3a, 0x3d, 0x96, 0x45, 0xa3, 0xbc, 0xda, 0xd0, 0x0e, 0x67, 0x65, 0x6f]
def z16 : List UInt8 := List.replicate 16 0
theorem z16_len : z16.length = 16 := rfl
theorem allocG (w : World) : (Instr.alloc 31 true (.tuple #[])).run Try.prog w = .ok (.pointer (some ⟨w.heap.size, 0, none⟩)) (w.alloc (.cells (bvs z16).toArray 31)) := by kernel_rfl
theorem TG : AggTy Try.prog 31 16 := ⟨by kernel_rfl, by kernel_rfl⟩
theorem buildGlobal (w : World) : (Instr.build 31 #[(0, .int .u8 97), (1, .int .u8 223), (2, .int .u8 228), (3, .int .u8 139), (4, .int .u8 202), (5, .int .u8 147), (6, .int .u8 210), (7, .int .u8 17), (8, .int .u8 170), (9, .int .u8 13), (10, .int .u8 0), (11, .int .u8 224), (12, .int .u8 152), (13, .int .u8 3), (14, .int .u8 43), (15, .int .u8 140)]).run Try.prog w = .ok (gv globalG) w := by kernel_rfl
theorem buildSecurity (w : World) : (Instr.build 31 #[(0, .int .u8 203), (1, .int .u8 178), (2, .int .u8 25), (3, .int .u8 215), (4, .int .u8 58), (5, .int .u8 61), (6, .int .u8 150), (7, .int .u8 69), (8, .int .u8 163), (9, .int .u8 188), (10, .int .u8 218), (11, .int .u8 208), (12, .int .u8 14), (13, .int .u8 103), (14, .int .u8 101), (15, .int .u8 111)]).run Try.prog w = .ok (gv securityG) w := by kernel_rfl

theorem global_spec (w : World) : Calls Try.prog 18 #[] w fun e w' => e = .returned (gv globalG) ∧ Below w.heap.size w w' := by
  go_enter Try.func18, Try.ntmps18
  go_wp2_with (first
    | ((with_reducible show wpList _ _ _ (Oper.mk _ (Op.alloc _) _ _ _ _ :: _) _ _); refine wpl_alloc rfl 31 rfl _ (allocG _) ?_)
    | ((with_reducible show wpList _ _ _ (Oper.mk _ (Op.build _ _) _ _ _ _ :: _) _ _); refine wpl_build rfl 31 _ rfl _ rfl _ (buildGlobal _) ?_)
    | ((with_reducible show wpList _ _ _ (Oper.mk _ (Op.store _ _ _) _ _ _ _ :: _) _ _); refine wpl_store_all (n := 16) rfl 31 _ _ rfl TG.sizeOf w.heap.size rfl (gv globalG) rfl (cs := bvs globalG) (by simp [gv, Value.cells]) rfl (heap_alloc_new w _) (.inl (Nat.le_refl _)) rfl (bvs_one _) ?_; intro w1 hg hch hsz1))
  have hb : Below w.heap.size w w1 := ((Ch.refl w (fun _ => False)).alloc _ |>.trans (S' := fun k => k = w.heap.size) hch (fun i hi e => by omega)).below (fun _ _ h => h.elim) (Nat.le_refl _)
  exact bodyPost_ret (results_c rfl rfl (run_loadVar_at TG (cs := bvs globalG) rfl (cells_of_block hg))) rfl ⟨rfl, hb⟩

theorem security_spec (w : World) : Calls Try.prog 19 #[] w fun e w' => e = .returned (gv securityG) ∧ Below w.heap.size w w' := by
  go_enter Try.func19, Try.ntmps19
  go_wp2_with (first
    | ((with_reducible show wpList _ _ _ (Oper.mk _ (Op.alloc _) _ _ _ _ :: _) _ _); refine wpl_alloc rfl 31 rfl _ (allocG _) ?_)
    | ((with_reducible show wpList _ _ _ (Oper.mk _ (Op.build _ _) _ _ _ _ :: _) _ _); refine wpl_build rfl 31 _ rfl _ rfl _ (buildSecurity _) ?_)
    | ((with_reducible show wpList _ _ _ (Oper.mk _ (Op.store _ _ _) _ _ _ _ :: _) _ _); refine wpl_store_all (n := 16) rfl 31 _ _ rfl TG.sizeOf w.heap.size rfl (gv securityG) rfl (cs := bvs securityG) (by simp [gv, Value.cells]) rfl (heap_alloc_new w _) (.inl (Nat.le_refl _)) rfl (bvs_one _) ?_; intro w1 hg hch hsz1))
  have hb : Below w.heap.size w w1 := ((Ch.refl w (fun _ => False)).alloc _ |>.trans (S' := fun k => k = w.heap.size) hch (fun i hi e => by omega)).below (fun _ _ h => h.elim) (Nat.le_refl _)
  exact bodyPost_ret (results_c rfl rfl (run_loadVar_at TG (cs := bvs securityG) rfl (cells_of_block hg))) rfl ⟨rfl, hb⟩

theorem refGlobal_spec (w : World) : Calls Try.prog 10 #[] w fun e w' => e = .returned (gv globalG) ∧ Below w.heap.size w w' := by
  go_enter Try.func10, Try.ntmps10
  go_wp2_with (first
    | ((with_reducible show wpList _ _ _ (Oper.mk _ (Op.alloc _) _ _ _ _ :: _) _ _); refine wpl_alloc rfl 31 rfl _ (allocG _) ?_)
    | ((with_reducible show wpList _ _ _ (Oper.mk _ (Op.build _ _) _ _ _ _ :: _) _ _); refine wpl_build rfl 31 _ rfl _ rfl _ (buildGlobal _) ?_)
    | ((with_reducible show wpList _ _ _ (Oper.mk _ (Op.store _ _ _) _ _ _ _ :: _) _ _); refine wpl_store_all (n := 16) rfl 31 _ _ rfl TG.sizeOf w.heap.size rfl (gv globalG) rfl (cs := bvs globalG) (by simp [gv, Value.cells]) rfl (heap_alloc_new w _) (.inl (Nat.le_refl _)) rfl (bvs_one _) ?_; intro w1 hg hch hsz1))
  have hb : Below w.heap.size w w1 := ((Ch.refl w (fun _ => False)).alloc _ |>.trans (S' := fun k => k = w.heap.size) hch (fun i hi e => by omega)).below (fun _ _ h => h.elim) (Nat.le_refl _)
  exact bodyPost_ret (results_c rfl rfl (run_loadVar_at TG (cs := bvs globalG) rfl (cells_of_block hg))) rfl ⟨rfl, hb⟩

theorem refSecurity_spec (w : World) : Calls Try.prog 11 #[] w fun e w' => e = .returned (gv securityG) ∧ Below w.heap.size w w' := by
  go_enter Try.func11, Try.ntmps11
  go_wp2_with (first
    | ((with_reducible show wpList _ _ _ (Oper.mk _ (Op.alloc _) _ _ _ _ :: _) _ _); refine wpl_alloc rfl 31 rfl _ (allocG _) ?_)
    | ((with_reducible show wpList _ _ _ (Oper.mk _ (Op.build _ _) _ _ _ _ :: _) _ _); refine wpl_build rfl 31 _ rfl _ rfl _ (buildSecurity _) ?_)
    | ((with_reducible show wpList _ _ _ (Oper.mk _ (Op.store _ _ _) _ _ _ _ :: _) _ _); refine wpl_store_all (n := 16) rfl 31 _ _ rfl TG.sizeOf w.heap.size rfl (gv securityG) rfl (cs := bvs securityG) (by simp [gv, Value.cells]) rfl (heap_alloc_new w _) (.inl (Nat.le_refl _)) rfl (bvs_one _) ?_; intro w1 hg hch hsz1))
  have hb : Below w.heap.size w w1 := ((Ch.refl w (fun _ => False)).alloc _ |>.trans (S' := fun k => k = w.heap.size) hch (fun i hi e => by omega)).below (fun _ _ h => h.elim) (Nat.le_refl _)
  exact bodyPost_ret (results_c rfl rfl (run_loadVar_at TG (cs := bvs securityG) rfl (cells_of_block hg))) rfl ⟨rfl, hb⟩

theorem same_spec (u v : Value) (a b : List UInt8) (w : World) (ha : BS w u a) (hb : BS w v b) :
    Calls Try.prog 16 #[u, v] w fun e w' => e = .returned (.bool (a == b)) ∧ w = w' := by
  go_enter Try.func16, Try.ntmps16
  go_wp2_with (first
    | ((with_reducible show wpList _ _ _ (Oper.mk (some 6) (Op.convert _ _ _) _ _ _ _ :: _) _ _); refine wpl_bytes_str rfl _ 9 28 rfl Try.underlying9 Try.underlying28 Try.underlying5 u rfl ha ?_)
    | ((with_reducible show wpList _ _ _ (Oper.mk (some 8) (Op.convert _ _ _) _ _ _ _ :: _) _ _); refine wpl_bytes_str rfl _ 9 28 rfl Try.underlying9 Try.underlying28 Try.underlying5 v rfl hb ?_))
  go_ret
  exact ⟨ret_bool (by simp [strOf]), rfl⟩

/-- Fits -/
def fitsF (k a : Int) : Int :=
  if 4 < k ∨ (bits BinOp.andNot IntKind.u32 a 103 != 0) = true ∨ (bits BinOp.and IntKind.u32 a 3 != 3) = true then 1
  else if (k = 1 ∨ k = 2 ∨ k = 3) ∧ (bits BinOp.and IntKind.u32 a 36 != 36) = true then 1
  else if k = 1 ∧ (bits BinOp.and IntKind.u32 a 64 != 0) = true then 1
  else 0
theorem ret_i64 {a b : Int} (h : a = b) : Ending.returned (.int .i64 a) = .returned (.int .i64 b) := by rw [h]
set_option maxHeartbeats 1000000 in
theorem fits_spec (k a : Int) (w : World) (hk : 0 ≤ k) (hk' : k < 256) (ha : 0 ≤ a) (ha' : a < 4294967296) :
    Calls Try.prog 22 #[.int .u8 k, .int .u32 a] w fun e w' => e = .returned (.int .i64 (fitsF k a)) ∧ w = w' := by
  go_enter Try.func22, Try.ntmps22
  go_wp2
  all_goals (go_ret; refine ⟨ret_i64 ?_, rfl⟩; unfold fitsF; simp [*] <;> omega)
set_option maxHeartbeats 1000000 in
theorem refFits_spec (k a : Int) (w : World) (hk : 0 ≤ k) (hk' : k < 256) (ha : 0 ≤ a) (ha' : a < 4294967296) :
    Calls Try.prog 23 #[.int .u8 k, .int .u32 a] w fun e w' => e = .returned (.int .i64 (fitsF k a)) ∧ w = w' := by
  go_enter Try.func23, Try.ntmps23
  go_wp2
  all_goals (go_ret; refine ⟨ret_i64 ?_, rfl⟩; unfold fitsF; simp [*] <;> omega)
end Go.Proofs.Ytccelefolepmeaa
