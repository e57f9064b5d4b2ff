/- The reference of package vname: contract of Split. Conditions: a slice that reads as bytes. -/
import Derived.Test.YtccelefolepmeaaVn3
namespace Go.Proofs.Ytccelefolepmeaa
open Go.RowKit
set_option linter.unusedVariables false

theorem sizeU8 (w : World) : (sizeOf 5).run Try.prog w = .ok 1 w := by kernel_rfl
/-- an array of bytes filled as far as i -/
theorem fill_step {k : List UInt8} {i : Nat} (hi : i < 16) (hk : 16 ≤ k.length) :
    ((bvs (k.take i ++ List.replicate (16 - i) 0)).toArray.toList.take i ++ [bv (k.getD i 0)] ++ (bvs (k.take i ++ List.replicate (16 - i) 0)).toArray.toList.drop (i + 1)) = bvs (k.take (i + 1) ++ List.replicate (16 - (i + 1)) 0) := by
  show (bvs _).take i ++ _ ++ (bvs _).drop (i + 1) = _
  rw [bvs_take, bvs_drop]
  have e1 : (k.take i ++ List.replicate (16 - i) 0).take i = k.take i := by
    rw [List.take_append_of_le_length (by rw [List.length_take]; omega), List.take_take, Nat.min_self]
  have e2 : (k.take i ++ List.replicate (16 - i) (0 : UInt8)).drop (i + 1) = List.replicate (16 - (i + 1)) 0 := by
    rw [List.drop_append, List.drop_eq_nil_of_le (by rw [List.length_take]; omega), List.length_take, List.nil_append, List.drop_replicate]; congr 1; omega
  rw [e1, e2]
  have e3 : k.take (i + 1) = k.take i ++ [k.getD i 0] := by
    rw [List.take_succ_eq_append_getElem (by omega)]; simp [List.getD, show i < k.length by omega]
  rw [e3, bvs_append, bvs_append]
  rfl

set_option maxHeartbeats 800000 in
theorem refSplit_spec (v : Value) (k : List UInt8) (w : World) (hv : BS w v k) :
    Calls Try.prog 15 #[v] w fun e w' => SplitPost w k e w' := by
  obtain ⟨a, n, c, rfl, hs⟩ := hv
  have hn := hs.len1
  have hle := hs.le
  have hmx := hs.max
  unfold maxLen at hmx
  have HN := Lib.hid hn; clear hn
  have HSL := Lib.hid hs; clear hs
  have h0 : Below w.heap.size w ((w.alloc (.cells (bvs z16).toArray 31)).alloc (.cells (bvs z16).toArray 31)) := ((Below.refl _ w).alloc (Nat.le_refl _) _).alloc (by simp) _
  have H0 := Lib.hid h0; clear h0
  have hB0 : ((w.alloc (.cells (bvs z16).toArray 31)).alloc (.cells (bvs z16).toArray 31)).heap[w.heap.size]? = some (.cells (bvs z16).toArray 31) := heap_alloc2_old w _ _
  have hB1 : ((w.alloc (.cells (bvs z16).toArray 31)).alloc (.cells (bvs z16).toArray 31)).heap[w.heap.size + 1]? = some (.cells (bvs z16).toArray 31) := heap_alloc2_new w _ _
  have HB0 := Lib.hid hB0; clear hB0
  have HB1 := Lib.hid hB1; clear hB1
  have hz : (bvs z16).length = 16 := rfl
  have HZ := Lib.hid hz; clear hz
  -- what the region of the false answer does
  let F : List UInt8 → World → Prop := fun q w' => w'.heap[w.heap.size]? = some (.cells (bvs q).toArray 31 (0, 0))
  let F1 : List UInt8 → World → Prop := fun q w' => w'.heap[w.heap.size + 1]? = some (.cells (bvs q).toArray 31 (0, 0))
  let S : World → Prop := fun w' => ∃ cur, w'.heap[w.heap.size]? = some (.cells cur 31 (0, 0)) ∧ cur.size = 16
  let G : List UInt8 → World → World → Prop := fun q x y => Ch x y (fun i => i = w.heap.size) ∧ (F q x → F q y) ∧ (S x → S y)
  have gr : ∀ q x, G q x x := fun q x => ⟨Ch.refl _ _, id, id⟩
  have gt : ∀ q x y z, G q x y → G q y z → G q x z := fun q x y z h1 h2 => ⟨h1.1.trans h2.1 (fun _ _ h => h), fun h => h2.2.1 (h1.2.1 h), fun h => h2.2.2 (h1.2.2 h)⟩
  have st : ∀ (q : List UInt8) (x : World), q.length = 16 → S x → ∃ y, (storeVar 31 ⟨w.heap.size, 0, none⟩ (gv q)).run Try.prog x = .ok () y ∧ G q x y ∧ F q y := by
    intro q x hq ⟨cur, hcur, hcs⟩
    have hrun := run_storeVar_at (P := Try.prog) (w := x) TG.sizeOf (o := 0) hcur (.inl (Nat.le_refl _)) (v := gv q) (cs := bvs q) (by simp [gv, Value.cells]) (by simp [hq]) (by omega) (bvs_one _)
    obtain ⟨c1, c2⟩ := setCells_ch w.heap.size (bvs q) 0 x
    have hrow := heap_setCells_row x w.heap.size 31 (0, 0) (bvs q) 0 cur hcur (by simp [hq, hcs])
    have hF : F q (x.setCells w.heap.size 0 (bvs q)) := by
      show _ = _
      rw [hrow]
      have : cur.toList.drop (0 + (bvs q).length) = [] := List.drop_eq_nil_of_le (by simp [hcs, hq])
      rw [this]; simp
    exact ⟨_, hrun, ⟨c1, fun _ => hF, fun _ => ⟨_, hF, by simp [hq]⟩⟩, hF⟩
  have GR := Lib.hid gr; clear gr
  have GT := Lib.hid gt; clear gt
  have ST := Lib.hid st; clear st
  by_cases hlt : n < 16
  · have hf : splitF k = ([], z16, false) := by unfold splitF; rw [if_pos (by rw [HN.out]; exact hlt)]
    have HF := Lib.hid hf; clear hf
    go_enter Try.func15, Try.ntmps15
    go_wp2_with ((with_reducible show wpList _ _ _ (Oper.mk _ (Op.alloc _) _ _ _ _ :: _) _ _); refine wpl_alloc rfl 31 rfl _ (allocG _) ?_)
    refine wp_region_rv (by kernel_rfl) (by kernel_rfl) (by kernel_rfl) (G z16) [gv z16, .string ⟨#[]⟩, undef, .bool false] rfl (fun i w' => i = 2 → F z16 w') (GR.out _ _) (GT.out _) (fun i x y _ _ h h3 h6 => h.2.1 (h3 h6)) ?_ ?_
    · intro i op ho x w2 hG hdep hown
      have hb1 : w2.heap[w.heap.size + 1]? = some (.cells (bvs z16).toArray 31) := (hG.1.block _ (by simp) (by omega)).trans HB1.out
      match i, ho with
      | 0, ho => obtain rfl := Option.some.inj ho; exact .inl ⟨rfl, w2, .inl (exec_load (x := .tmp 5) rfl ((hown 5 (by kernel_rfl)).trans rfl) (run_loadVar_at TG (cs := bvs z16) HZ.out (cells_of_block hb1))), GR.out _ _, fun h => by cases h⟩
      | 1, ho => obtain rfl := Option.some.inj ho; exact .inl ⟨rfl, w2, .inl (exec_assign (x := .const (.string ⟨#[]⟩)) rfl rfl), GR.out _ _, fun h => by cases h⟩
      | 2, ho =>
        obtain rfl := Option.some.inj ho
        obtain ⟨y, h1, h2, h3⟩ := ST.out z16 w2 rfl (hG.2.2 ⟨_, HB0.out, rfl⟩)
        exact .inl ⟨rfl, y, .inr ⟨exec_store (x := .tmp 3) (y := .tmp 17) rfl ((hown 3 (by kernel_rfl)).trans rfl) ((hdep 0 (by kernel_rfl)).2 17 rfl) h1, rfl⟩, h2, fun _ => h3⟩
      | 3, ho => obtain rfl := Option.some.inj ho; exact .inl ⟨rfl, w2, .inl (exec_assign (x := .const (.bool false)) rfl rfl), GR.out _ _, fun h => by cases h⟩
      | i + 4, ho => simp at ho
    · intro w2 hG hall
      have hF : F z16 w2 := hall 2 (by decide) rfl
      have hb : Below w.heap.size w w2 := H0.out.drew.trans (hG.1.below (fun i hi e => by omega) (by simp; omega))
      simp only [List.map_cons, List.map_nil, putZ, Act.put, List.setIfInBounds_toArray, List.set_cons_succ, List.set_cons_zero]
      go_wp2_with fail
      exact bodyPost_ret (results_tct rfl rfl (run_loadVar_at TG HZ.out (cells_of_block hF))) rfl ⟨hb, by rw [HF.out]; rfl⟩
  · obtain ⟨b, o, rfl, _⟩ := HSL.out.addr (by omega) (by omega)
    have hbB : b < w.heap.size := by
      obtain ⟨hl0⟩ : Nonempty (0 < (bvs k).length) := ⟨by simp [HN.out]; omega⟩
      exact World.block_lt_of_cell? w ⟨b, o, none⟩ (by have := HSL.out.cell _ rfl 0 _ (List.getElem?_eq_getElem hl0); simpa [Addr.add] using this)
    have hsl : BS ((w.alloc (.cells (bvs z16).toArray 31)).alloc (.cells (bvs z16).toArray 31)) (.slice (some ⟨b, o, none⟩) n c) k := ⟨_, n, c, rfl, HSL.out.below H0.out⟩
    have HSW := Lib.hid hsl; clear hsl
    have hd : decide ((n : Int) < 16) = false := by simp; omega
    go_enter Try.func15, Try.ntmps15
    go_wp2_with (first
      | ((with_reducible show wpList _ _ _ (Oper.mk _ (Op.alloc _) _ _ _ _ :: _) _ _); refine wpl_alloc rfl 31 rfl _ (allocG _) ?_)
      | ((with_reducible show wpList _ _ _ (Oper.mk _ (Op.slice _ _ _ _ _) _ _ _ _ :: _) _ _); refine wpl_slice rfl 28 _ _ _ rfl TB _ rfl HSW.out n 16 n (by simp [HN.out]) (by omega) (.inr ⟨_, rfl⟩) (.inl ⟨rfl, rfl⟩) (by omega) (Nat.le_refl _) ?_; intro v' hv' hvb)
      | ((with_reducible show wpList _ _ _ (Oper.mk _ (Op.convert _ _ _) _ _ _ _ :: _) _ _); refine wpl_bytes_str (bs := k.drop 16) rfl _ 9 28 rfl Try.underlying9 Try.underlying28 Try.underlying5 v' rfl (by rw [List.take_of_length_le (by simp [HN.out])] at hv'; rw [Nat.mul_one, bvs_drop] at hv'; exact hv') ?_))
    refine (refRight_spec _ _ (by rw [strOf_size, List.length_drop, HN.out]; unfold maxLen; omega)).mono ?_
    rintro e w1 ⟨rfl, hw1⟩
    subst hw1
    have e0 : (strOf (k.drop 16)).data.toList = k.drop 16 := by simp
    cases hr : rightB (strOf (k.drop 16)).data.toList
    · have hf : splitF k = ([], z16, false) := by
        unfold splitF; rw [if_neg (by rw [HN.out]; exact hlt), if_neg (by rw [e0] at hr; rw [hr]; simp)]
      have HF := Lib.hid hf; clear hf hr e0
      go_wp2_with fail
      refine wp_region_rv (by kernel_rfl) (by kernel_rfl) (by kernel_rfl) (G z16) [gv z16, .string ⟨#[]⟩, undef, .bool false] rfl (fun i w' => i = 2 → F z16 w') (GR.out _ _) (GT.out _) (fun i x y _ _ h h3 h6 => h.2.1 (h3 h6)) ?_ ?_
      · intro i op ho x w2 hG hdep hown
        have hb1 : w2.heap[w.heap.size + 1]? = some (.cells (bvs z16).toArray 31) := (hG.1.block _ (by simp) (by omega)).trans HB1.out
        match i, ho with
        | 0, ho => obtain rfl := Option.some.inj ho; exact .inl ⟨rfl, w2, .inl (exec_load (x := .tmp 5) rfl ((hown 5 (by kernel_rfl)).trans rfl) (run_loadVar_at TG (cs := bvs z16) HZ.out (cells_of_block hb1))), GR.out _ _, fun h => by cases h⟩
        | 1, ho => obtain rfl := Option.some.inj ho; exact .inl ⟨rfl, w2, .inl (exec_assign (x := .const (.string ⟨#[]⟩)) rfl rfl), GR.out _ _, fun h => by cases h⟩
        | 2, ho =>
          obtain rfl := Option.some.inj ho
          obtain ⟨y, h1, h2, h3⟩ := ST.out z16 w2 rfl (hG.2.2 ⟨_, HB0.out, rfl⟩)
          exact .inl ⟨rfl, y, .inr ⟨exec_store (x := .tmp 3) (y := .tmp 17) rfl ((hown 3 (by kernel_rfl)).trans rfl) ((hdep 0 (by kernel_rfl)).2 17 rfl) h1, rfl⟩, h2, fun _ => h3⟩
        | 3, ho => obtain rfl := Option.some.inj ho; exact .inl ⟨rfl, w2, .inl (exec_assign (x := .const (.bool false)) rfl rfl), GR.out _ _, fun h => by cases h⟩
        | i + 4, ho => simp at ho
      · intro w2 hG hall
        have hF : F z16 w2 := hall 2 (by decide) rfl
        have hb : Below w.heap.size w w2 := H0.out.drew.trans (hG.1.below (fun i hi e => by omega) (by simp; omega))
        simp only [List.map_cons, List.map_nil, putZ, Act.put, List.setIfInBounds_toArray, List.set_cons_succ, List.set_cons_zero]
        go_wp2_with fail
        exact bodyPost_ret (results_tct rfl rfl (run_loadVar_at TG HZ.out (cells_of_block hF))) rfl ⟨hb, by rw [HF.out]; rfl⟩
    · have hf : splitF k = (k.drop 16, k.take 16, true) := by
        unfold splitF; rw [if_neg (by rw [HN.out]; exact hlt), if_pos (by rw [e0] at hr; exact hr)]
      have HF := Lib.hid hf; clear hf hr e0 hv' hvb
      go_wp2_with fail
      go_loopw [6] (fun i wr => ∃ j : Nat, j ≤ 16 ∧ i = .int .i64 j ∧ wr.heap[w.heap.size + 1]? = some (.cells (bvs (k.take j ++ List.replicate (16 - j) 0)).toArray 31) ∧ wr.heap[w.heap.size]? = some (.cells (bvs z16).toArray 31) ∧ Below w.heap.size w wr ∧ wr.heap.size = w.heap.size + 2) (fun i _ => 16 - (intOf i).toNat)
      case atStart => exact ⟨0, by omega, rfl, HB1.out, HB0.out, H0.out, by simp⟩
      case round =>
        obtain ⟨j, hj, rfl, hr1, hr0, hrb, hrs⟩ := hrel
        have HR1 := Lib.hid hr1; clear hr1
        have HR0 := Lib.hid hr0; clear hr0
        have HRB := Lib.hid hrb; clear hrb
        have HRS := Lib.hid hrs; clear hrs
        have hnl : k.length = n := HN.out
        by_cases hj16 : j < 16
        · have hc : wr.cell? ⟨b, o + j, none⟩ = some (.int .u8 (k.getD j 0).toNat) := by
            have := (HSL.out.below HRB.out).cell _ rfl j _ (bvs_get (l := k) (by omega))
            rw [Addr.add_lit] at this
            rw [this]; simp [List.getD, show j < k.length by omega]
          have hsz : (bvs (k.take j ++ List.replicate (16 - j) 0)).toArray.size = 16 := by simp; omega
          obtain ⟨x, hx⟩ : ∃ x, x = k.getD j 0 := ⟨_, rfl⟩
          rw [← hx] at hc
          have HX := Lib.hid hx; clear hx
          have HSZ := Lib.hid hsz; clear hsz hnl
          go_wp2_with ((with_reducible show wpList _ _ _ (Oper.mk _ (Op.store _ _ _) _ _ _ _ :: _) _ _); refine wpl_store (n := 1) rfl 5 _ _ rfl sizeU8 (w.heap.size + 1) j rfl (bv x) rfl (cs := [bv x]) rfl rfl HR1.out (.inl (Nat.le_refl _)) (by rw [HSZ.out]; omega) (by intro u hu; simp at hu; subst hu; rfl) ?_; intro w2 hg hch hsz2)
          go_roundw
          case rel => exact ⟨j + 1, by omega, by go_num, by rw [hg, HX.out, fill_step hj16 (by rw [HN.out]; omega)], (hch.block _ (by rw [HRS.out]; omega) (by omega)).trans HR0.out, HRB.out.trans (hch.below (fun i hi e => by omega) (by rw [HRS.out]; omega)), by rw [hsz2, HRS.out]⟩
          case measure => simp [intOf]; omega
        · go_wp2_with fail
          obtain rfl : j = 16 := by omega
          have hq : k.take 16 ++ List.replicate (16 - 16) 0 = k.take 16 := by simp
          have HR1' := HR1.out
          rw [hq] at HR1'
          have HQ := Lib.hid HR1'; clear HR1' hq HR1
          have hql : (k.take 16).length = 16 := by simp [HN.out]; omega
          have HQL := Lib.hid hql; clear hql
          have HLEN : Hid ((bvs (k.take 16)).length = 16) := by simp [Hid, HQL.out]
          have hcut := (HSL.out.below HRB.out.drew).cut (lo := 16) (hi := n) (by omega) (Nat.le_refl _)
          simp only [Option.map_some, Addr.add, Nat.mul_one, show ¬ (16 = 0) by omega, if_false] at hcut
          rw [List.take_of_length_le (by simp [HN.out]), bvs_drop] at hcut
          have HCUT := Lib.hid hcut; clear hcut hnl
          refine wp_region_rv (by kernel_rfl) (by kernel_rfl) (by kernel_rfl) (G (k.take 16))
            [.slice (some ⟨b, o, none⟩) n c, .slice (if c = 16 then some ⟨b, o, none⟩ else some ⟨b, o + 16, none⟩) (n - 16) (c - 16), .string (strOf (k.drop 16)), gv (k.take 16), .string (strOf (k.drop 16)), undef, .bool true] rfl
            (fun i w' => i = 5 → F (k.take 16) w') (GR.out _ _) (GT.out _) (fun i x y _ _ h h3 h6 => h.2.1 (h3 h6)) ?_ ?_
          · intro i op ho x w2 hG hdep hown
            have hb1 : w2.heap[w.heap.size + 1]? = some (.cells (bvs (k.take 16)).toArray 31) := (hG.1.block _ (by simp [HRS.out]) (by omega)).trans HQ.out
            have hcut2 : SlAt w2 1 (if c = 16 then some ⟨b, o, none⟩ else some ⟨b, o + 16, none⟩) (n - 16) (c - 16) (bvs (k.drop 16)) := HCUT.out.ch hG.1 (fun ad had e => by split at had <;> (obtain rfl := Option.some.inj had; simp at e; omega))
            match i, ho with
            | 0, ho => obtain rfl := Option.some.inj ho; exact .inl ⟨rfl, w2, .inl (exec_move (x := .tmp 0) rfl ((hown 0 (by kernel_rfl)).trans rfl)), GR.out _ _, fun h => by cases h⟩
            | 1, ho =>
              obtain rfl := Option.some.inj ho
              refine .inl ⟨rfl, w2, .inl ?_, GR.out _ _, fun h => by cases h⟩
              refine (exec_slice (x := .tmp 28) (lo := some (.const (.int .i64 16))) (hi := none) (l := 16) (h := n) rfl TB ((hdep 0 (by kernel_rfl)).2 28 rfl) (.inr ⟨.i64, rfl⟩) (.inl ⟨rfl, rfl⟩) (by omega) (by omega)).trans ?_
              simp [Addr.add]
            | 2, ho => obtain rfl := Option.some.inj ho; exact .inl ⟨rfl, w2, .inl (exec_conv_bs (x := .tmp 29) rfl Try.underlying9 Try.underlying28 Try.underlying5 ((hdep 1 (by kernel_rfl)).2 29 rfl) ⟨_, _, _, rfl, hcut2⟩), GR.out _ _, fun h => by cases h⟩
            | 3, ho => obtain rfl := Option.some.inj ho; exact .inl ⟨rfl, w2, .inl (exec_load (x := .tmp 5) rfl ((hown 5 (by kernel_rfl)).trans rfl) (run_loadVar_at TG (cs := bvs (k.take 16)) HLEN.out (cells_of_block hb1))), GR.out _ _, fun h => by cases h⟩
            | 4, ho => obtain rfl := Option.some.inj ho; exact .inl ⟨rfl, w2, .inl (exec_assign (x := .tmp 30) rfl ((hdep 2 (by kernel_rfl)).2 30 rfl)), GR.out _ _, fun h => by cases h⟩
            | 5, ho =>
              obtain rfl := Option.some.inj ho
              obtain ⟨y, h1, h2, h3⟩ := ST.out (k.take 16) w2 HQL.out (hG.2.2 ⟨_, HR0.out, rfl⟩)
              exact .inl ⟨rfl, y, .inr ⟨exec_store (x := .tmp 3) (y := .tmp 31) rfl ((hown 3 (by kernel_rfl)).trans rfl) ((hdep 3 (by kernel_rfl)).2 31 rfl) h1, rfl⟩, h2, fun _ => h3⟩
            | 6, ho => obtain rfl := Option.some.inj ho; exact .inl ⟨rfl, w2, .inl (exec_assign (x := .const (.bool true)) rfl rfl), GR.out _ _, fun h => by cases h⟩
            | i + 7, ho => simp at ho
          · intro w2 hG hall
            have hF : F (k.take 16) w2 := hall 5 (by decide) rfl
            have hb : Below w.heap.size w w2 := HRB.out.drew.trans (hG.1.below (fun i hi e => by omega) (by simp [HRS.out]))
            simp only [List.map_cons, List.map_nil, putZ, Act.put, List.setIfInBounds_toArray, List.set_cons_succ, List.set_cons_zero]
            go_wp2_with fail
            all_goals exact bodyPost_ret (results_tct rfl rfl (run_loadVar_at TG HLEN.out (cells_of_block hF))) rfl ⟨hb, by rw [HF.out]; rfl⟩
end Go.Proofs.Ytccelefolepmeaa
