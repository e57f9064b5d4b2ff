/- The walk of the statement VnameTells, the case which % 3 = 2. Written by gen_vnc.py. Conditions: the premises. -/
import Derived.Test.YtccelefolepmeaaVnc
namespace Go.Proofs.Ytccelefolepmeaa
open Go.RowKit
set_option linter.unusedVariables false
set_option maxHeartbeats 8000000 in
set_option maxRecDepth 8000 in
theorem tells_q2 (w : World) (s : ByteArray) (ws : s.size ≤ maxLen) (g : List UInt8) (hg : g.length = 16) (qn : Nat) (q1 : (qn : Int) ≤ 255) (hq : qn % 3 = 2) (v : Value) (key : List UInt8) (hv : BS w v key) (k : Int) (k0 : 0 ≤ k) (k1 : k ≤ 255) (a : Int) (a0 : 0 ≤ a) (a1 : a ≤ 4294967295) (hA : ¬ 4096 < s.size) (hB0 : ¬ 4096 < key.length) :
    Calls Try.prog 5 #[.string s, gv g, .int .u8 (qn : Int), v, .int .u8 k, .int .u32 a] w fun e w' => e = .returned (.bool true) ∧ Below w.heap.size w w' := by
  have WS := Lib.hid ws
  unfold maxLen at ws
  have HG := Lib.hid hg; clear hg
  have lg : Hid ((bvs g).length = 16) := by show _ = _; simp [HG.out]
  obtain ⟨av, n, c, rfl, hsl⟩ := hv
  have hn := hsl.len1
  have HN := Lib.hid hn; clear hn
  have BV : Hid (BS w (.slice av n c) key) := ⟨_, _, _, rfl, hsl⟩
  have hc1 := hsl.le
  have hc2 := hsl.max
  unfold maxLen at hc2
  clear hsl
  unfold gv
  have h0 : Below w.heap.size w (w.alloc (.cells (bvs g).toArray 31)) := (Below.refl _ w).alloc (Nat.le_refl _) _
  have H0 := Lib.hid h0; clear h0
  have end1 : ∀ (w1 : World) e w5, Below w.heap.size w w1 → (e = Ending.returned (.bool true) ∧ Below w1.heap.size w1 w5) → Below w.heap.size w w5 := fun w1 e w5 h1 h2 => h1.trans (h2.2.mono h1.size)
  have END := Lib.hid end1; clear end1
  have hB : ¬ 4096 < n := by rw [← HN.out]; exact hB0
  clear hB0
  obtain ⟨ek, HEK⟩ : ∃ x : Int, Hid ((if rightB s.data.toList then (0 : Int) else 1) = x) := ⟨_, rfl⟩
  obtain ⟨ks0, HKS0⟩ : ∃ x : List UInt8 → List UInt8, Hid (∀ g, (if rightB s.data.toList then g ++ s.data.toList else []) = x g) := ⟨_, fun _ => rfl⟩
  have HKS : Hid (∀ g, (if rightB s.data.toList then g ++ s.data.toList else []) = ks0 g) := HKS0
  have KSS : Hid (∀ l : List UInt8, (l == l) = true) := fun l => by simp
  have KYY : Hid ((key == key) = true) := by show _ = _; simp
  obtain ⟨spn, HSPN⟩ : ∃ x, Hid (strOf (splitF key).1 = x) := ⟨_, rfl⟩
  obtain ⟨spg, HSPG⟩ : ∃ x, Hid ((splitF key).2.1 = x) := ⟨_, rfl⟩
  obtain ⟨spb, HSPB⟩ : ∃ x, Hid ((splitF key).2.2 = x) := ⟨_, rfl⟩
  have HSL : Hid (spg.length = 16) := by rw [← HSPG.out]; exact splitF_len key
  have LSG : Hid ((bvs spg).length = 16) := by show _ = _; simp [HSL.out]
  go_enter Try.func5, Try.ntmps5
  have d1 : (((qn : Int) % 3) == 1) = false := by simp; omega
  have d2 : (((qn : Int) % 3) == 2) = true := by simp; omega
  clear hq
  have LGX : Hid ((bvs securityG).length = 16) := rfl
  have HGX : Hid (securityG.length = 16) := rfl
  go_wp2_with ((with_reducible show wpList _ _ _ (Oper.mk _ (Op.box _ _) _ _ _ _ :: _) _ _); refine wpl_box rfl 31 _ rfl (gv g) rfl ?_; intro w0 hw0 hb0 hs0; have HW0 := Lib.hid hw0; have HB0 := Lib.hid hb0; have HS0 := Lib.hid hs0; clear hw0 hb0 hs0)
  refine (refSecurity_spec w0).mono ?_
  rintro e w1 ⟨rfl, hb1⟩
  have HB1 := Lib.hid (HB0.out.trans (hb1.mono HB0.out.size)); have HSX : Hid (w.heap.size < w1.heap.size) := Nat.lt_of_lt_of_le (by rw [HS0.out]; omega) hb1.size
  have HW1 := Lib.hid ((hb1.block _ (by rw [HS0.out]; omega)).trans HW0.out); clear hb1
  go_wp2_with (first
    | ((with_reducible show wpList _ _ _ (Oper.mk _ (Op.store _ _ _) _ _ _ _ :: _) _ _); refine wpl_store_all (n := 16) rfl 31 _ _ rfl TG.sizeOf w.heap.size rfl (gv securityG) rfl (cs := bvs securityG) (by simp [gv, Value.cells]) rfl HW1.out (.inl (Nat.le_refl _)) (by simp [gv, Value.cells, HG.out]) (bvs_one _) ?_; intro wx hg hch hsz; have ST : Hid (TlSt w wx securityG key (.slice av n c)) := ⟨HB1.out.trans (hch.below (B := w.heap.size) (fun i _ e => by omega) HB1.out.size), hg, by rw [hsz]; exact HSX.out, BV.out.below (HB1.out.trans (hch.below (B := w.heap.size) (fun i _ e => by omega) HB1.out.size))⟩; clear hg hch hsz; have HSRC : Hid (∀ o, BS (wx.alloc o) (.slice av n c) key) := fun o => ST.out.2.2.2.below ((Below.refl _ _).alloc (Nat.le_refl _) _))
    | ((with_reducible show wpList _ _ _ (Oper.mk (some 43) (Op.call _) _ _ _ _ :: _) _ _); refine wpl_append (B := wx.heap.size) rfl _ _ 28 28 rfl TB _ rfl (Own.nil _ _ 1 _) _ rfl (Src.bs Try.underlying28 (HSRC.out _)) (by unfold maxLen; rw [HN.out]; omega) (by rw [HN.out]; omega) (by simp) ?_; intro vin w3 hown3 hch3 hblk3; have hb3 := ((Below.refl wx.heap.size wx).alloc (Nat.le_refl _) _).trans (hch3.below (B := wx.heap.size) (fun k hk e => by cases (show (none : Option Nat) = some k from e)) (by simp)); have ST3 := Lib.hid (ST.out.next hb3); have VIN3 : Hid (BS w3 vin key) := hown3.sl; clear hown3 hch3 hblk3 hb3)
    | ((with_reducible show wpList _ _ _ (Oper.mk (some 46) (Op.load _ _) _ _ _ _ :: _) _ _); refine wpl_load_agg rfl 31 _ rfl TG ⟨w.heap.size, 0, none⟩ rfl LGX.out (cells_of_block (ST3.out.2.1)) ?_))
  refine (key_spec s securityG _ WS.out HGX.out).mono ?_
  intro e w4 h4
  obtain ⟨va, h4e, h4b, h4c⟩ := h4.one; clear h4
  rw [HEK.out] at h4e; rw [HKS.out] at h4b
  have ST4 := Lib.hid (ST3.out.next h4c); have VIN4 := Lib.hid (VIN3.out.below h4c); have VA4 := Lib.hid h4b
  subst h4e; clear h4b h4c
  go_wp2_with (((with_reducible show wpList _ _ _ (Oper.mk (some 52) (Op.load _ _) _ _ _ _ :: _) _ _); refine wpl_load_agg rfl 31 _ rfl TG ⟨w.heap.size, 0, none⟩ rfl LGX.out (cells_of_block (ST4.out.2.1)) ?_))
  refine (refKey_spec s securityG _ WS.out HGX.out).mono ?_
  intro e w5 h5
  obtain ⟨vb, h5e, h5b, h5c⟩ := h5.one; clear h5
  rw [HEK.out] at h5e; rw [HKS.out] at h5b
  have ST5 := Lib.hid (ST4.out.next h5c); have VIN5 := Lib.hid (VIN4.out.below h5c); have VA5 := Lib.hid (VA4.out.below h5c); have VB5 := Lib.hid h5b
  subst h5e; clear h5b h5c
  go_wp2_with fail
  refine (split_spec vin key _ VIN5.out).mono ?_
  rintro e w6 ⟨hb6, rfl⟩
  rw [HSPN.out, HSPG.out, HSPB.out]
  have ST6 := Lib.hid (ST5.out.next hb6); have VIN6 := Lib.hid (VIN5.out.below hb6); have VA6 := Lib.hid (VA5.out.below hb6); have VB6 := Lib.hid (VB5.out.below hb6); clear hb6
  go_wp2_with (first
    | ((with_reducible show wpList _ _ _ (Oper.mk _ (Op.alloc _) _ _ _ _ :: _) _ _); refine wpl_alloc rfl 31 rfl _ (allocG _) ?_)
    | ((with_reducible show wpList _ _ _ (Oper.mk _ (Op.store _ _ _) _ _ _ _ :: _) _ _); refine wpl_store_all (n := 16) rfl 31 _ _ rfl TG.sizeOf w6.heap.size rfl (gv spg) rfl (cs := bvs spg) (by simp [gv, Value.cells]) LSG.out (heap_alloc_new w6 _) (.inl (Nat.le_refl _)) rfl (bvs_one _) ?_; intro w7 hg hch hsz; have hb7 := ((Below.refl w6.heap.size w6).alloc (Nat.le_refl _) _).trans (hch.below (B := w6.heap.size) (fun i _ e => by omega) (by simp)); have G7 := Lib.hid hg; have S7 : Hid (w6.heap.size < w7.heap.size) := (by show _ < _; rw [hsz]; simp); have ST7 := Lib.hid (ST6.out.next hb7); have VIN7 := Lib.hid (VIN6.out.below hb7); have VA7 := Lib.hid (VA6.out.below hb7); have VB7 := Lib.hid (VB6.out.below hb7); clear hb7; clear hg hch hsz))
  refine (refSplit_spec _ key _ ST7.out.2.2.2).mono ?_
  rintro e w8 ⟨hb8, rfl⟩
  rw [HSPN.out, HSPG.out, HSPB.out]
  have G8 := Lib.hid ((hb8.block _ S7.out).trans G7.out); have S8 := Lib.hid (Nat.lt_of_lt_of_le S7.out hb8.size)
  have ST8 := Lib.hid (ST7.out.next hb8); have VIN8 := Lib.hid (VIN7.out.below hb8); have VA8 := Lib.hid (VA7.out.below hb8); have VB8 := Lib.hid (VB7.out.below hb8); clear hb8
  go_wp2_with (first
    | ((with_reducible show wpList _ _ _ (Oper.mk _ (Op.alloc _) _ _ _ _ :: _) _ _); refine wpl_alloc rfl 31 rfl _ (allocG _) ?_)
    | ((with_reducible show wpList _ _ _ (Oper.mk _ (Op.store _ _ _) _ _ _ _ :: _) _ _); refine wpl_store_all (n := 16) rfl 31 _ _ rfl TG.sizeOf w8.heap.size rfl (gv spg) rfl (cs := bvs spg) (by simp [gv, Value.cells]) LSG.out (heap_alloc_new w8 _) (.inl (Nat.le_refl _)) rfl (bvs_one _) ?_; intro w9 hg hch hsz; have hb9 := ((Below.refl w8.heap.size w8).alloc (Nat.le_refl _) _).trans (hch.below (B := w8.heap.size) (fun i _ e => by omega) (by simp)); have G9 := Lib.hid hg; have H9 := Lib.hid ((hb9.block _ S8.out).trans G8.out); have ST9 := Lib.hid (ST8.out.next hb9); have VIN9 := Lib.hid (VIN8.out.below hb9); have VA9 := Lib.hid (VA8.out.below hb9); have VB9 := Lib.hid (VB8.out.below hb9); clear hb9; clear hg hch hsz)
    | ((with_reducible show wpList _ _ _ (Oper.mk (some 70) (Op.binOp _ _ _ _ _) _ _ _ _ :: _) _ _); refine wpl_run rfl (.bool false) (exec_neq_int_self (k := .i64) (a := ek) rfl rfl rfl) ?_)
    | ((with_reducible show wpList _ _ _ (Oper.mk (some 80) (Op.binOp _ _ _ _ _) _ _ _ _ :: _) _ _); refine wpl_run rfl (.bool false) (exec_neq_str_self (a := spn) rfl rfl rfl) ?_)
    | ((with_reducible show wpList _ _ _ (Oper.mk (some 90) (Op.binOp _ _ _ _ _) _ _ _ _ :: _) _ _); refine wpl_run rfl (.bool false) (exec_neq_bool_self (b := spb) rfl Try.underlying4 rfl rfl) ?_)
    | ((with_reducible show wpList _ _ _ (Oper.mk (some 103) (Op.binOp _ _ _ _ _) _ _ _ _ :: _) _ _); refine wpl_run rfl (.bool false) (exec_neq_bool_self (b := rightB s.data.toList) rfl Try.underlying4 rfl rfl) ?_)
    | ((with_reducible show wpList _ _ _ (Oper.mk (some 83) (Op.load _ _) _ _ _ _ :: _) _ _); refine wpl_load_agg rfl 31 _ rfl TG ⟨w6.heap.size, 0, none⟩ rfl LSG.out (cells_of_block (H9.out)) ?_)
    | ((with_reducible show wpList _ _ _ (Oper.mk (some 84) (Op.load _ _) _ _ _ _ :: _) _ _); refine wpl_load_agg rfl 31 _ rfl TG ⟨w8.heap.size, 0, none⟩ rfl LSG.out (cells_of_block (G9.out)) ?_)
    | ((with_reducible show wpList _ _ _ (Oper.mk (some 85) (Op.binOp _ _ _ _ _) _ _ _ _ :: _) _ _); refine wpl_run rfl (.bool false) (exec_neq_bytes_self (a := spg) rfl eqGuard31 und31 Try.underlying5 cells31 cells5 key31 rfl rfl HSL.out) ?_)
    | (go_at_call 16; refine (same_spec va vb _ _ _ VA9.out VB9.out).mono ?_; rintro e wq ⟨rfl, rfl⟩; rw [KSS.out])
    | (go_at_call 16; refine (same_spec vin _ _ _ _ VIN9.out ST9.out.2.2.2).mono ?_; rintro e wq ⟨rfl, rfl⟩; rw [KYY.out])
    | (go_at_call 9; refine (right_spec s _ WS.out).mono ?_; rintro e wy ⟨rfl, hby⟩; have STY := Lib.hid (ST9.out.next hby); clear hby)
    | (go_at_call 17; refine (refRight_spec s _ WS.out).mono ?_; rintro e wq ⟨rfl, rfl⟩))

  refine wp_region_rw (by kernel_rfl) (by kernel_rfl) (by kernel_rfl) (fun x y => Below wy.heap.size x y) [gv globalG, gv globalG, .bool true, .bool true, gv securityG, gv securityG, .bool true, .bool true, .bool true, .string s, gv securityG, .int .u8 (kindF s.data.toList securityG), .string s, gv securityG, .int .u8 (kindF s.data.toList securityG), .bool true, .bool true, .bool true, .int .u8 k, .int .u32 a, .int .i64 (fitsF k a), .int .u8 k, .int .u32 a, .int .i64 (fitsF k a), .bool true, .bool true, .bool true, .bool true, .bool true, .bool true] rfl (fun _ _ => True) (Below.refl _ _) (fun x y z h1 h2 => h1.trans h2) (fun _ _ _ _ _ _ _ => trivial) ?_ ?_
  · intro i op ho b w3 hG3 hdep hown
    have hG4 : Below wy.heap.size wy w3 := (Below.drew (Below.refl _ _)).trans hG3
    have hB4 : w3.heap[w.heap.size]? = some (.cells (bvs securityG).toArray 31) := (hG4.block _ STY.out.2.2.1).trans STY.out.2.1
    have hL : (loadVar 31 ⟨w.heap.size, 0, none⟩).run Try.prog w3 = .ok (gv securityG) w3 := run_loadVar_at TG LGX.out (cells_of_block hB4)
    match i, ho with
    | 0, ho =>
      obtain rfl := Option.some.inj ho
      refine .inl ⟨rfl, wpv_call rfl Try.call18 (args := #[]) (by simp) ?_⟩
      refine (global_spec w3).mono ?_
      rintro e w4 ⟨rfl, hb⟩
      exact ⟨_, rfl, rfl, (hb.mono hG4.size), trivial⟩
    | 1, ho =>
      obtain rfl := Option.some.inj ho
      refine .inl ⟨rfl, wpv_call rfl Try.call10 (args := #[]) (by simp) ?_⟩
      refine (refGlobal_spec w3).mono ?_
      rintro e w4 ⟨rfl, hb⟩
      exact ⟨_, rfl, rfl, (hb.mono hG4.size), trivial⟩
    | 2, ho =>
      obtain rfl := Option.some.inj ho
      exact .inl ⟨rfl, wpv_run (exec_eql_bytes (a := globalG) (b := globalG) (x := .tmp 105) (y := .tmp 106) rfl eqGuard31 und31 Try.underlying5 cells31 cells5 key31 ((hdep 0 (by kernel_rfl)).2 105 rfl) ((hdep 1 (by kernel_rfl)).2 106 rfl) rfl rfl) (by simp) ⟨rfl, Below.refl _ _, trivial⟩⟩
    | 3, ho =>
      obtain rfl := Option.some.inj ho
      exact .inl ⟨rfl, wpv_run (exec_move (x := .tmp 107) rfl ((hdep 2 (by kernel_rfl)).2 107 rfl)) rfl ⟨rfl, Below.refl _ _, trivial⟩⟩
    | 4, ho =>
      obtain rfl := Option.some.inj ho
      refine .inl ⟨(wanted_yes rfl (yielded_bool (d := 108) rfl ((hdep 3 (by kernel_rfl)).2 108 rfl))), wpv_call rfl Try.call19 (args := #[]) (by simp) ?_⟩
      refine (security_spec w3).mono ?_
      rintro e w4 ⟨rfl, hb⟩
      exact ⟨_, rfl, rfl, (hb.mono hG4.size), trivial⟩
    | 5, ho =>
      obtain rfl := Option.some.inj ho
      refine .inl ⟨(wanted_yes rfl (yielded_bool (d := 108) rfl ((hdep 3 (by kernel_rfl)).2 108 rfl))), wpv_call rfl Try.call11 (args := #[]) (by simp) ?_⟩
      refine (refSecurity_spec w3).mono ?_
      rintro e w4 ⟨rfl, hb⟩
      exact ⟨_, rfl, rfl, (hb.mono hG4.size), trivial⟩
    | 6, ho =>
      obtain rfl := Option.some.inj ho
      exact .inl ⟨(wanted_yes rfl (yielded_bool (d := 108) rfl ((hdep 3 (by kernel_rfl)).2 108 rfl))), wpv_run (exec_eql_bytes (a := securityG) (b := securityG) (x := .tmp 109) (y := .tmp 110) rfl eqGuard31 und31 Try.underlying5 cells31 cells5 key31 ((hdep 4 (by kernel_rfl)).2 109 rfl) ((hdep 5 (by kernel_rfl)).2 110 rfl) rfl rfl) (by simp) ⟨rfl, Below.refl _ _, trivial⟩⟩
    | 7, ho =>
      obtain rfl := Option.some.inj ho
      exact .inl ⟨rfl, wpv_run (exec_pick (c := .tmp 108) (x := .tmp 111) (y := .const (.bool false)) (b := true) rfl ((hdep 3 (by kernel_rfl)).2 108 rfl) ((hdep 6 (by kernel_rfl)).2 111 rfl)) rfl ⟨rfl, Below.refl _ _, trivial⟩⟩
    | 8, ho =>
      obtain rfl := Option.some.inj ho
      exact .inl ⟨rfl, wpv_run (exec_move (x := .tmp 112) rfl ((hdep 7 (by kernel_rfl)).2 112 rfl)) rfl ⟨rfl, Below.refl _ _, trivial⟩⟩
    | 9, ho =>
      obtain rfl := Option.some.inj ho
      exact .inl ⟨(wanted_yes rfl (yielded_bool (d := 113) rfl ((hdep 8 (by kernel_rfl)).2 113 rfl))), wpv_run (exec_move (x := .tmp 0) rfl ((hown 0 (by kernel_rfl)).trans rfl)) rfl ⟨rfl, Below.refl _ _, trivial⟩⟩
    | 10, ho =>
      obtain rfl := Option.some.inj ho
      exact .inl ⟨(wanted_yes rfl (yielded_bool (d := 113) rfl ((hdep 8 (by kernel_rfl)).2 113 rfl))), wpv_run (exec_load (x := .tmp 7) rfl ((hown 7 (by kernel_rfl)).trans rfl) hL) rfl ⟨rfl, Below.refl _ _, trivial⟩⟩
    | 11, ho =>
      obtain rfl := Option.some.inj ho
      refine .inl ⟨(wanted_yes rfl (yielded_bool (d := 113) rfl ((hdep 8 (by kernel_rfl)).2 113 rfl))), wpv_call rfl Try.call20 (args := #[.string s, gv securityG]) (args2 ((hdep 9 (by kernel_rfl)).2 114 rfl) ((hdep 10 (by kernel_rfl)).2 115 rfl)) ?_⟩
      refine (kind_spec s securityG w3 WS.out HGX.out).mono ?_
      rintro e w4 ⟨rfl, hb⟩
      exact ⟨_, rfl, rfl, (hb.mono hG4.size), trivial⟩
    | 12, ho =>
      obtain rfl := Option.some.inj ho
      exact .inl ⟨(wanted_yes rfl (yielded_bool (d := 113) rfl ((hdep 8 (by kernel_rfl)).2 113 rfl))), wpv_run (exec_move (x := .tmp 0) rfl ((hown 0 (by kernel_rfl)).trans rfl)) rfl ⟨rfl, Below.refl _ _, trivial⟩⟩
    | 13, ho =>
      obtain rfl := Option.some.inj ho
      exact .inl ⟨(wanted_yes rfl (yielded_bool (d := 113) rfl ((hdep 8 (by kernel_rfl)).2 113 rfl))), wpv_run (exec_load (x := .tmp 7) rfl ((hown 7 (by kernel_rfl)).trans rfl) hL) rfl ⟨rfl, Below.refl _ _, trivial⟩⟩
    | 14, ho =>
      obtain rfl := Option.some.inj ho
      refine .inl ⟨(wanted_yes rfl (yielded_bool (d := 113) rfl ((hdep 8 (by kernel_rfl)).2 113 rfl))), wpv_call rfl Try.call21 (args := #[.string s, gv securityG]) (args2 ((hdep 12 (by kernel_rfl)).2 117 rfl) ((hdep 13 (by kernel_rfl)).2 118 rfl)) ?_⟩
      refine (refKind_spec s securityG w3 WS.out HGX.out).mono ?_
      rintro e w4 ⟨rfl, hb⟩
      exact ⟨_, rfl, rfl, (hb.mono hG4.size), trivial⟩
    | 15, ho =>
      obtain rfl := Option.some.inj ho
      exact .inl ⟨(wanted_yes rfl (yielded_bool (d := 113) rfl ((hdep 8 (by kernel_rfl)).2 113 rfl))), wpv_run (exec_eql_int_self (x := .tmp 116) (y := .tmp 119) rfl ((hdep 11 (by kernel_rfl)).2 116 rfl) ((hdep 14 (by kernel_rfl)).2 119 rfl)) rfl ⟨rfl, Below.refl _ _, trivial⟩⟩
    | 16, ho =>
      obtain rfl := Option.some.inj ho
      exact .inl ⟨rfl, wpv_run (exec_pick (c := .tmp 113) (x := .tmp 120) (y := .const (.bool false)) (b := true) rfl ((hdep 8 (by kernel_rfl)).2 113 rfl) ((hdep 15 (by kernel_rfl)).2 120 rfl)) rfl ⟨rfl, Below.refl _ _, trivial⟩⟩
    | 17, ho =>
      obtain rfl := Option.some.inj ho
      exact .inl ⟨rfl, wpv_run (exec_move (x := .tmp 121) rfl ((hdep 16 (by kernel_rfl)).2 121 rfl)) rfl ⟨rfl, Below.refl _ _, trivial⟩⟩
    | 18, ho =>
      obtain rfl := Option.some.inj ho
      exact .inl ⟨(wanted_yes rfl (yielded_bool (d := 122) rfl ((hdep 17 (by kernel_rfl)).2 122 rfl))), wpv_run (exec_move (x := .tmp 4) rfl ((hown 4 (by kernel_rfl)).trans rfl)) rfl ⟨rfl, Below.refl _ _, trivial⟩⟩
    | 19, ho =>
      obtain rfl := Option.some.inj ho
      exact .inl ⟨(wanted_yes rfl (yielded_bool (d := 122) rfl ((hdep 17 (by kernel_rfl)).2 122 rfl))), wpv_run (exec_move (x := .tmp 5) rfl ((hown 5 (by kernel_rfl)).trans rfl)) rfl ⟨rfl, Below.refl _ _, trivial⟩⟩
    | 20, ho =>
      obtain rfl := Option.some.inj ho
      refine .inl ⟨(wanted_yes rfl (yielded_bool (d := 122) rfl ((hdep 17 (by kernel_rfl)).2 122 rfl))), wpv_call rfl Try.call22 (args := #[.int .u8 k, .int .u32 a]) (args2 ((hdep 18 (by kernel_rfl)).2 123 rfl) ((hdep 19 (by kernel_rfl)).2 124 rfl)) ?_⟩
      refine (fits_spec k a w3 k0 (by omega) a0 (by omega)).mono ?_
      rintro e w4 ⟨rfl, rfl⟩
      exact ⟨_, rfl, rfl, (Below.refl _ _), trivial⟩
    | 21, ho =>
      obtain rfl := Option.some.inj ho
      exact .inl ⟨(wanted_yes rfl (yielded_bool (d := 122) rfl ((hdep 17 (by kernel_rfl)).2 122 rfl))), wpv_run (exec_move (x := .tmp 4) rfl ((hown 4 (by kernel_rfl)).trans rfl)) rfl ⟨rfl, Below.refl _ _, trivial⟩⟩
    | 22, ho =>
      obtain rfl := Option.some.inj ho
      exact .inl ⟨(wanted_yes rfl (yielded_bool (d := 122) rfl ((hdep 17 (by kernel_rfl)).2 122 rfl))), wpv_run (exec_move (x := .tmp 5) rfl ((hown 5 (by kernel_rfl)).trans rfl)) rfl ⟨rfl, Below.refl _ _, trivial⟩⟩
    | 23, ho =>
      obtain rfl := Option.some.inj ho
      refine .inl ⟨(wanted_yes rfl (yielded_bool (d := 122) rfl ((hdep 17 (by kernel_rfl)).2 122 rfl))), wpv_call rfl Try.call23 (args := #[.int .u8 k, .int .u32 a]) (args2 ((hdep 21 (by kernel_rfl)).2 126 rfl) ((hdep 22 (by kernel_rfl)).2 127 rfl)) ?_⟩
      refine (refFits_spec k a w3 k0 (by omega) a0 (by omega)).mono ?_
      rintro e w4 ⟨rfl, rfl⟩
      exact ⟨_, rfl, rfl, (Below.refl _ _), trivial⟩
    | 24, ho =>
      obtain rfl := Option.some.inj ho
      exact .inl ⟨(wanted_yes rfl (yielded_bool (d := 122) rfl ((hdep 17 (by kernel_rfl)).2 122 rfl))), wpv_run (exec_eql_int_self (x := .tmp 125) (y := .tmp 128) rfl ((hdep 20 (by kernel_rfl)).2 125 rfl) ((hdep 23 (by kernel_rfl)).2 128 rfl)) rfl ⟨rfl, Below.refl _ _, trivial⟩⟩
    | 25, ho =>
      obtain rfl := Option.some.inj ho
      exact .inl ⟨rfl, wpv_run (exec_pick (c := .tmp 122) (x := .tmp 129) (y := .const (.bool false)) (b := true) rfl ((hdep 17 (by kernel_rfl)).2 122 rfl) ((hdep 24 (by kernel_rfl)).2 129 rfl)) rfl ⟨rfl, Below.refl _ _, trivial⟩⟩
    | 26, ho =>
      obtain rfl := Option.some.inj ho
      exact .inl ⟨rfl, wpv_run (exec_move (x := .tmp 130) rfl ((hdep 25 (by kernel_rfl)).2 130 rfl)) rfl ⟨rfl, Below.refl _ _, trivial⟩⟩
    | 27, ho =>
      obtain rfl := Option.some.inj ho
      refine .inl ⟨(wanted_yes rfl (yielded_bool (d := 131) rfl ((hdep 26 (by kernel_rfl)).2 131 rfl))), wpv_call rfl Try.call8 (args := #[]) (by simp) ?_⟩
      refine (works_spec w3).mono ?_
      rintro e w4 ⟨rfl, hb⟩
      exact ⟨_, rfl, rfl, (hb.mono hG4.size), trivial⟩
    | 28, ho =>
      obtain rfl := Option.some.inj ho
      exact .inl ⟨rfl, wpv_run (exec_pick (c := .tmp 131) (x := .tmp 132) (y := .const (.bool false)) (b := true) rfl ((hdep 26 (by kernel_rfl)).2 131 rfl) ((hdep 27 (by kernel_rfl)).2 132 rfl)) rfl ⟨rfl, Below.refl _ _, trivial⟩⟩
    | 29, ho =>
      obtain rfl := Option.some.inj ho
      exact .inl ⟨rfl, wpv_run (exec_assign (x := .tmp 133) rfl ((hdep 28 (by kernel_rfl)).2 133 rfl)) rfl ⟨rfl, Below.refl _ _, trivial⟩⟩
    | i + 30, ho => simp at ho
  · intro w3 hG3 _
    simp only [List.map_cons, List.map_nil, putZ, Act.put, List.setIfInBounds_toArray, List.set_cons_succ, List.set_cons_zero]
    have HB3 : Hid (Below w.heap.size w w3) := STY.out.1.trans ((Below.drew (Below.refl _ _)).trans (hG3.mono STY.out.1.size))
    go_wp2_with fail
    go_ret
    exact ⟨rfl, HB3.out⟩
end Go.Proofs.Ytccelefolepmeaa
