/- The walk of the statement VnameApart. Conditions: the arguments fit their kinds. -/
import Derived.Test.YtccelefolepmeaaVn8
import Derived.Test.YtccelefolepmeaaOp
namespace Go.Proofs.Ytccelefolepmeaa
open Go.RowKit
set_option linter.unusedVariables false

theorem splitF_key {g n : List UInt8} (hg : g.length = 16) (hn : rightB n = true) : splitF (g ++ n) = (n, g, true) := by
  unfold splitF
  have e1 : (g ++ n).drop 16 = n := by rw [← hg]; exact List.drop_left
  have e2 : (g ++ n).take 16 = g := by rw [← hg]; exact List.take_left
  rw [if_neg (by simp [hg]), e1, e2, if_pos hn]
theorem key_inj {g h a b : List UInt8} (hg : g.length = 16) (hh : h.length = 16) : ((g ++ a) == (h ++ b)) = (decide (a = b) && decide (g = h)) := by
  rw [Bool.eq_iff_iff]
  simp only [beq_iff_eq, Bool.and_eq_true, decide_eq_true_eq]
  constructor
  · intro e
    have := List.append_inj e (by omega)
    exact ⟨this.2, this.1⟩
  · rintro ⟨rfl, rfl⟩; rfl
set_option maxHeartbeats 4000000 in
theorem walk_VnameApart (sa : ByteArray) (wa : sa.size ≤ maxLen) (sb : ByteArray) (wb : sb.size ≤ maxLen) (g : List UInt8) (hg : g.length = 16) (h : List UInt8) (hh : h.length = 16) (w : World) :
    Calls Try.prog 6 #[.string sa, .string sb, gv g, gv h] w fun e w' => e = .returned (.bool true) ∧ Below w.heap.size w w' := by
  have WA := Lib.hid wa
  have WB := Lib.hid wb
  unfold maxLen at wa wb
  have HG := Lib.hid hg; clear hg
  have HH := Lib.hid hh; clear hh
  have lg : Hid ((bvs g).length = 16) := by show _ = _; simp [HG.out]
  have lh : Hid ((bvs h).length = 16) := by show _ = _; simp [HH.out]
  unfold gv
  have h0 : Below w.heap.size w ((w.alloc (.cells (bvs g).toArray 31)).alloc (.cells (bvs h).toArray 31)) := ((Below.refl _ w).alloc (Nat.le_refl _) _).alloc (by simp) _
  have H0 := Lib.hid h0; clear h0
  have B0 : Hid (∀ w2, Below (w.heap.size + 2) ((w.alloc (.cells (bvs g).toArray 31)).alloc (.cells (bvs h).toArray 31)) w2 → w2.heap[w.heap.size]? = some (.cells (bvs g).toArray 31) ∧ w2.heap[w.heap.size + 1]? = some (.cells (bvs h).toArray 31) ∧ Below w.heap.size w w2 ∧ w.heap.size + 2 ≤ w2.heap.size) := fun w2 hb =>
    ⟨(hb.block _ (by omega)).trans (heap_alloc2_old w _ _), (hb.block _ (by omega)).trans (heap_alloc2_new w _ _), H0.out.trans (hb.mono (by omega)), by have := hb.size; simp at this; omega⟩
  by_cases hA : 4096 < sa.size
  · go_enter Try.func6, Try.ntmps6
    go_wp2_with fail
    refine (works_spec _).mono ?_
    intro e w5 h5
    have HB5 := H0.out.trans (h5.2.mono H0.out.size)
    obtain ⟨rfl, _⟩ := h5
    have HB6 := Lib.hid HB5; clear HB5
    go_wp2_with fail
    go_ret
    exact ⟨rfl, HB6.out⟩
  · by_cases hB : 4096 < sb.size
    · go_enter Try.func6, Try.ntmps6
      go_wp2_with fail
      refine (works_spec _).mono ?_
      intro e w5 h5
      have HB5 := H0.out.trans (h5.2.mono H0.out.size)
      obtain ⟨rfl, _⟩ := h5
      have HB6 := Lib.hid HB5; clear HB5
      go_wp2_with fail
      go_ret
      exact ⟨rfl, HB6.out⟩
    · go_enter Try.func6, Try.ntmps6
      go_wp2_with ((with_reducible show wpList _ _ _ (Oper.mk (some 27) (Op.load _ _) _ _ _ _ :: _) _ _); refine wpl_load_agg rfl 31 _ rfl TG ⟨w.heap.size, 0, none⟩ rfl lg.out (cells_of_block (heap_alloc2_old w _ _)) ?_)
      refine (key_spec sa g _ WA.out HG.out).mono ?_
      rintro e w1 ⟨hb1, hk1⟩
      have hb1' : Below (w.heap.size + 2) ((w.alloc (.cells (bvs g).toArray 31)).alloc (.cells (bvs h).toArray 31)) w1 := hb1.mono (by simp)
      obtain ⟨bg1, bh1, bw1, bs1⟩ := B0.out w1 hb1'
      have X1 := Lib.hid hb1'; have G1 := Lib.hid bg1; have G2 := Lib.hid bh1; have W1 := Lib.hid bw1
      clear hb1 hb1' bg1 bh1 bw1
      have key2 : ∀ (v1 : Value) (e1 : Int), True := fun _ _ => trivial
      clear key2
      rcases hk1 with ⟨hra, rfl⟩ | ⟨hra, v1, rfl, hown1⟩
      · have RA := Lib.hid hra; clear hra
        go_wp2_with ((with_reducible show wpList _ _ _ (Oper.mk (some 33) (Op.load _ _) _ _ _ _ :: _) _ _); refine wpl_load_agg rfl 31 _ rfl TG ⟨w.heap.size + 1, 0, none⟩ rfl lh.out (cells_of_block G2.out) ?_)
        refine (key_spec sb h _ WB.out HH.out).mono ?_
        rintro e w2 ⟨hb2, hk2⟩
        have bw2 := Lib.hid (W1.out.trans (hb2.mono W1.out.size)); clear hb2
        rcases hk2 with ⟨hrb, rfl⟩ | ⟨hrb, v2, rfl, hown2⟩
        · have RB := Lib.hid hrb; clear hrb
          go_wp2_with fail
          refine (right_spec sa _ WA.out).mono ?_
          rintro e w3 ⟨rfl, hb3⟩
          have bw3 := Lib.hid (bw2.out.trans (hb3.mono bw2.out.size)); clear hb3
          rw [RA.out]
          go_wp2_with fail
          refine (right_spec sb _ WB.out).mono ?_
          rintro e w4 ⟨rfl, hb4⟩
          have bw4 := Lib.hid (bw3.out.trans (hb4.mono bw3.out.size)); clear hb4
          rw [RB.out]
          go_wp2_with fail
          refine (works_spec _).mono ?_
          intro e w5 h5
          have HB5 := bw4.out.trans (h5.2.mono bw4.out.size)
          obtain ⟨rfl, _⟩ := h5
          have HB6 := Lib.hid HB5; clear HB5
          go_wp2_with fail
          go_ret
          exact ⟨rfl, HB6.out⟩
        · have RB := Lib.hid hrb; clear hrb hown2
          go_wp2_with fail
          refine (right_spec sa _ WA.out).mono ?_
          rintro e w3 ⟨rfl, hb3⟩
          have bw3 := Lib.hid (bw2.out.trans (hb3.mono bw2.out.size)); clear hb3
          rw [RA.out]
          go_wp2_with fail
          refine (right_spec sb _ WB.out).mono ?_
          rintro e w4 ⟨rfl, hb4⟩
          have bw4 := Lib.hid (bw3.out.trans (hb4.mono bw3.out.size)); clear hb4
          rw [RB.out]
          go_wp2_with fail
          refine (works_spec _).mono ?_
          intro e w5 h5
          have HB5 := bw4.out.trans (h5.2.mono bw4.out.size)
          obtain ⟨rfl, _⟩ := h5
          have HB6 := Lib.hid HB5; clear HB5
          go_wp2_with fail
          go_ret
          exact ⟨rfl, HB6.out⟩
      · have RA := Lib.hid hra; clear hra
        have bsv1 : BS w1 v1 (g ++ sa.data.toList) := hown1.sl
        have BV1 := Lib.hid bsv1; clear bsv1 hown1
        go_wp2_with ((with_reducible show wpList _ _ _ (Oper.mk (some 33) (Op.load _ _) _ _ _ _ :: _) _ _); refine wpl_load_agg rfl 31 _ rfl TG ⟨w.heap.size + 1, 0, none⟩ rfl lh.out (cells_of_block G2.out) ?_)
        refine (key_spec sb h _ WB.out HH.out).mono ?_
        rintro e w2 ⟨hb2, hk2⟩
        have bw2 := Lib.hid (W1.out.trans (hb2.mono W1.out.size))
        have X2 := Lib.hid (X1.out.trans (hb2.mono bs1))
        have BV2 := Lib.hid (BV1.out.below hb2); clear hb2
        rcases hk2 with ⟨hrb, rfl⟩ | ⟨hrb, v2, rfl, hown2⟩
        · have RB := Lib.hid hrb; clear hrb
          go_wp2_with fail
          refine (right_spec sa _ WA.out).mono ?_
          rintro e w3 ⟨rfl, hb3⟩
          have bw3 := Lib.hid (bw2.out.trans (hb3.mono bw2.out.size)); clear hb3
          rw [RA.out]
          go_wp2_with fail
          refine (right_spec sb _ WB.out).mono ?_
          rintro e w4 ⟨rfl, hb4⟩
          have bw4 := Lib.hid (bw3.out.trans (hb4.mono bw3.out.size)); clear hb4
          rw [RB.out]
          go_wp2_with fail
          refine (works_spec _).mono ?_
          intro e w5 h5
          have HB5 := bw4.out.trans (h5.2.mono bw4.out.size)
          obtain ⟨rfl, _⟩ := h5
          have HB6 := Lib.hid HB5; clear HB5
          go_wp2_with fail
          go_ret
          exact ⟨rfl, HB6.out⟩
        · have RB := Lib.hid hrb; clear hrb
          have bsv2 : BS w2 v2 (h ++ sb.data.toList) := hown2.sl
          have CV2 := Lib.hid bsv2; clear bsv2 hown2
          have bs2 : w.heap.size + 2 ≤ w2.heap.size := (B0.out w2 X2.out).2.2.2
          go_wp2_with fail
          refine (split_spec v1 _ _ BV2.out).mono ?_
          rintro e w3 ⟨hb3, rfl⟩
          simp only [splitF_key HG.out RA.out, strOf_toList]
          have X3 := Lib.hid (X2.out.trans (hb3.mono bs2))
          have bw3 := Lib.hid (bw2.out.trans (hb3.mono bw2.out.size))
          have BV3 := Lib.hid (BV2.out.below hb3)
          have CV3 := Lib.hid (CV2.out.below hb3); clear hb3
          have bs3 : w.heap.size + 2 ≤ w3.heap.size := (B0.out w3 X3.out).2.2.2
          have at4 : ∀ w4, Ch (w3.alloc (.cells (bvs z16).toArray 31)) w4 (fun k => k = w3.heap.size) →
              Hid (w4.heap[w.heap.size]? = some (.cells (bvs g).toArray 31) ∧ w4.heap[w.heap.size + 1]? = some (.cells (bvs h).toArray 31) ∧ Below w.heap.size w w4 ∧ BS w4 v1 (g ++ sa.data.toList) ∧ BS w4 v2 (h ++ sb.data.toList)) := fun w4 hc => by
            have hb34 : Below w3.heap.size w3 w4 := ((Below.refl _ w3).alloc (Nat.le_refl _) _).trans (hc.below (fun i _ e => by omega) (by simp))
            have x3 := B0.out w3 X3.out
            exact ⟨(hb34.block _ (by omega)).trans x3.1, (hb34.block _ (by omega)).trans x3.2.1, bw3.out.trans (hb34.mono bw3.out.size), BV3.out.below hb34, CV3.out.below hb34⟩
          have AT4 := Lib.hid at4; clear at4
          have sself : (sa.toList == sa.toList) = true := by simp
          have e1 := toList_beq sa sb.data.toList
          rw [show sb.data.toList = sb.toList from (ByteArray.toList_eq sb).symm] at e1
          by_cases hab : sa.data.toList = sb.toList
          · have hd : (sa.toList == sb.toList) = true := by rw [e1]; simp [hab]
            by_cases hgh : g = h
            · have KD : Hid ((decide (sa.data.toList = sb.data.toList) && decide (g = h)) = true) := by show _ = _; rw [ByteArray.toList_eq] at hab; simp [hab, hgh]
              have GD : Hid (decide (g = h) = true) := by show _ = _; simp [hgh]
              clear e1 hab hgh
              go_wp2_with (first
                | ((with_reducible show wpList _ _ _ (Oper.mk _ (Op.alloc _) _ _ _ _ :: _) _ _); refine wpl_alloc rfl 31 rfl _ (allocG _) ?_)
                | ((with_reducible show wpList _ _ _ (Oper.mk _ (Op.store _ _ _) _ _ _ _ :: _) _ _); refine wpl_store_all (n := 16) rfl 31 _ _ rfl TG.sizeOf w3.heap.size rfl (gv g) rfl (cs := bvs g) (by simp [gv, Value.cells]) lg.out (heap_alloc_new w3 _) (.inl (Nat.le_refl _)) rfl (bvs_one _) ?_; intro w4 hg4 hch4 hsz4; have G4 := Lib.hid hg4; have C4 := Lib.hid hch4; have S4 := Lib.hid hsz4; have X4 := AT4.out w4 hch4; clear hg4 hch4 hsz4)
                | ((with_reducible show wpList _ _ _ (Oper.mk (some 71) (Op.load _ _) _ _ _ _ :: _) _ _); refine wpl_load_agg rfl 31 _ rfl TG ⟨w3.heap.size, 0, none⟩ rfl lg.out (cells_of_block G4.out) ?_)
                | ((with_reducible show wpList _ _ _ (Oper.mk (some 72) (Op.load _ _) _ _ _ _ :: _) _ _); refine wpl_load_agg rfl 31 _ rfl TG ⟨w.heap.size, 0, none⟩ rfl lg.out (cells_of_block X4.out.1) ?_)
                | ((with_reducible show wpList _ _ _ (Oper.mk (some 73) (Op.binOp _ _ _ _ _) _ _ _ _ :: _) _ _); refine wpl_run rfl _ (exec_eql_bytes (a := g) (b := g) rfl eqGuard31 und31 Try.underlying5 cells31 cells5 key31 rfl rfl HG.out HG.out) ?_)
                | (go_at_call 16; refine (same_spec v1 v2 _ _ _ X4.out.2.2.2.1 X4.out.2.2.2.2).mono ?_; rintro e w6 ⟨rfl, rfl⟩; rw [key_inj HG.out HH.out, KD.out])
                | ((with_reducible show wpList _ _ _ (Oper.mk (some 83) (Op.load _ _) _ _ _ _ :: _) _ _); refine wpl_load_agg rfl 31 _ rfl TG ⟨w.heap.size, 0, none⟩ rfl lg.out (cells_of_block X4.out.1) ?_)
                | ((with_reducible show wpList _ _ _ (Oper.mk (some 84) (Op.load _ _) _ _ _ _ :: _) _ _); refine wpl_load_agg rfl 31 _ rfl TG ⟨w.heap.size + 1, 0, none⟩ rfl lh.out (cells_of_block X4.out.2.1) ?_)
                | ((with_reducible show wpList _ _ _ (Oper.mk (some 85) (Op.binOp _ _ _ _ _) _ _ _ _ :: _) _ _); refine wpl_run rfl _ (exec_eql_bytes (a := g) (b := h) rfl eqGuard31 und31 Try.underlying5 cells31 cells5 key31 rfl rfl HG.out HH.out) ?_; simp only [GD.out])
                | (go_at_call 8; refine (works_spec _).mono ?_; intro e w5 h5; have HB5 := Lib.hid (X4.out.2.2.1.trans (h5.2.mono X4.out.2.2.1.size)); obtain ⟨rfl, _⟩ := h5))
              go_ret
              exact ⟨rfl, HB5.out⟩
            · have KD : Hid ((decide (sa.data.toList = sb.data.toList) && decide (g = h)) = false) := by show _ = _; simp [hgh]
              have GD : Hid (decide (g = h) = false) := by show _ = _; simp [hgh]
              clear e1 hab hgh
              go_wp2_with (first
                | ((with_reducible show wpList _ _ _ (Oper.mk _ (Op.alloc _) _ _ _ _ :: _) _ _); refine wpl_alloc rfl 31 rfl _ (allocG _) ?_)
                | ((with_reducible show wpList _ _ _ (Oper.mk _ (Op.store _ _ _) _ _ _ _ :: _) _ _); refine wpl_store_all (n := 16) rfl 31 _ _ rfl TG.sizeOf w3.heap.size rfl (gv g) rfl (cs := bvs g) (by simp [gv, Value.cells]) lg.out (heap_alloc_new w3 _) (.inl (Nat.le_refl _)) rfl (bvs_one _) ?_; intro w4 hg4 hch4 hsz4; have G4 := Lib.hid hg4; have C4 := Lib.hid hch4; have S4 := Lib.hid hsz4; have X4 := AT4.out w4 hch4; clear hg4 hch4 hsz4)
                | ((with_reducible show wpList _ _ _ (Oper.mk (some 71) (Op.load _ _) _ _ _ _ :: _) _ _); refine wpl_load_agg rfl 31 _ rfl TG ⟨w3.heap.size, 0, none⟩ rfl lg.out (cells_of_block G4.out) ?_)
                | ((with_reducible show wpList _ _ _ (Oper.mk (some 72) (Op.load _ _) _ _ _ _ :: _) _ _); refine wpl_load_agg rfl 31 _ rfl TG ⟨w.heap.size, 0, none⟩ rfl lg.out (cells_of_block X4.out.1) ?_)
                | ((with_reducible show wpList _ _ _ (Oper.mk (some 73) (Op.binOp _ _ _ _ _) _ _ _ _ :: _) _ _); refine wpl_run rfl _ (exec_eql_bytes (a := g) (b := g) rfl eqGuard31 und31 Try.underlying5 cells31 cells5 key31 rfl rfl HG.out HG.out) ?_)
                | (go_at_call 16; refine (same_spec v1 v2 _ _ _ X4.out.2.2.2.1 X4.out.2.2.2.2).mono ?_; rintro e w6 ⟨rfl, rfl⟩; rw [key_inj HG.out HH.out, KD.out])
                | ((with_reducible show wpList _ _ _ (Oper.mk (some 83) (Op.load _ _) _ _ _ _ :: _) _ _); refine wpl_load_agg rfl 31 _ rfl TG ⟨w.heap.size, 0, none⟩ rfl lg.out (cells_of_block X4.out.1) ?_)
                | ((with_reducible show wpList _ _ _ (Oper.mk (some 84) (Op.load _ _) _ _ _ _ :: _) _ _); refine wpl_load_agg rfl 31 _ rfl TG ⟨w.heap.size + 1, 0, none⟩ rfl lh.out (cells_of_block X4.out.2.1) ?_)
                | ((with_reducible show wpList _ _ _ (Oper.mk (some 85) (Op.binOp _ _ _ _ _) _ _ _ _ :: _) _ _); refine wpl_run rfl _ (exec_eql_bytes (a := g) (b := h) rfl eqGuard31 und31 Try.underlying5 cells31 cells5 key31 rfl rfl HG.out HH.out) ?_; simp only [GD.out])
                | (go_at_call 8; refine (works_spec _).mono ?_; intro e w5 h5; have HB5 := Lib.hid (X4.out.2.2.1.trans (h5.2.mono X4.out.2.2.1.size)); obtain ⟨rfl, _⟩ := h5))
              go_ret
              exact ⟨rfl, HB5.out⟩
          · have hd : (sa.toList == sb.toList) = false := by rw [e1]; simp [hab]
            have KD : Hid ((decide (sa.data.toList = sb.data.toList) && decide (g = h)) = false) := by show _ = _; rw [ByteArray.toList_eq] at hab; simp [hab]
            clear e1 hab
            go_wp2_with (first
              | ((with_reducible show wpList _ _ _ (Oper.mk _ (Op.alloc _) _ _ _ _ :: _) _ _); refine wpl_alloc rfl 31 rfl _ (allocG _) ?_)
              | ((with_reducible show wpList _ _ _ (Oper.mk _ (Op.store _ _ _) _ _ _ _ :: _) _ _); refine wpl_store_all (n := 16) rfl 31 _ _ rfl TG.sizeOf w3.heap.size rfl (gv g) rfl (cs := bvs g) (by simp [gv, Value.cells]) lg.out (heap_alloc_new w3 _) (.inl (Nat.le_refl _)) rfl (bvs_one _) ?_; intro w4 hg4 hch4 hsz4; have G4 := Lib.hid hg4; have C4 := Lib.hid hch4; have S4 := Lib.hid hsz4; have X4 := AT4.out w4 hch4; clear hg4 hch4 hsz4)
              | ((with_reducible show wpList _ _ _ (Oper.mk (some 71) (Op.load _ _) _ _ _ _ :: _) _ _); refine wpl_load_agg rfl 31 _ rfl TG ⟨w3.heap.size, 0, none⟩ rfl lg.out (cells_of_block G4.out) ?_)
              | ((with_reducible show wpList _ _ _ (Oper.mk (some 72) (Op.load _ _) _ _ _ _ :: _) _ _); refine wpl_load_agg rfl 31 _ rfl TG ⟨w.heap.size, 0, none⟩ rfl lg.out (cells_of_block X4.out.1) ?_)
              | ((with_reducible show wpList _ _ _ (Oper.mk (some 73) (Op.binOp _ _ _ _ _) _ _ _ _ :: _) _ _); refine wpl_run rfl _ (exec_eql_bytes (a := g) (b := g) rfl eqGuard31 und31 Try.underlying5 cells31 cells5 key31 rfl rfl HG.out HG.out) ?_)
              | (go_at_call 16; refine (same_spec v1 v2 _ _ _ X4.out.2.2.2.1 X4.out.2.2.2.2).mono ?_; rintro e w6 ⟨rfl, rfl⟩; rw [key_inj HG.out HH.out, KD.out])
              | ((with_reducible show wpList _ _ _ (Oper.mk (some 83) (Op.load _ _) _ _ _ _ :: _) _ _); refine wpl_load_agg rfl 31 _ rfl TG ⟨w.heap.size, 0, none⟩ rfl lg.out (cells_of_block X4.out.1) ?_)
              | ((with_reducible show wpList _ _ _ (Oper.mk (some 84) (Op.load _ _) _ _ _ _ :: _) _ _); refine wpl_load_agg rfl 31 _ rfl TG ⟨w.heap.size + 1, 0, none⟩ rfl lh.out (cells_of_block X4.out.2.1) ?_)
              | ((with_reducible show wpList _ _ _ (Oper.mk (some 85) (Op.binOp _ _ _ _ _) _ _ _ _ :: _) _ _); refine wpl_run rfl _ (exec_eql_bytes (a := g) (b := h) rfl eqGuard31 und31 Try.underlying5 cells31 cells5 key31 rfl rfl HG.out HH.out) ?_)
              | (go_at_call 8; refine (works_spec _).mono ?_; intro e w5 h5; have HB5 := Lib.hid (X4.out.2.2.1.trans (h5.2.mono X4.out.2.2.1.size)); obtain ⟨rfl, _⟩ := h5))
            go_ret
            exact ⟨rfl, HB5.out⟩
end Go.Proofs.Ytccelefolepmeaa
