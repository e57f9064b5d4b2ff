/- Package vname and its reference: contracts of Split. Conditions: a slice that reads as bytes. -/
import Derived.Test.YtccelefolepmeaaVn2
import Derived.Test.YtccelefolepmeaaRg
namespace Go.Proofs.Ytccelefolepmeaa
open Go.RowKit
set_option linter.unusedVariables false

/-- what Split answers -/
def splitF (k : List UInt8) : List UInt8 × List UInt8 × Bool :=
  if k.length < 16 then ([], z16, false) else if rightB (k.drop 16) then (k.drop 16, k.take 16, true) else ([], z16, false)
def SplitPost (w : World) (k : List UInt8) (e : Ending) (w' : World) : Prop :=
  Below w.heap.size w w' ∧ e = .returned (.tuple #[.string (strOf (splitF k).1), gv (splitF k).2.1, .bool (splitF k).2.2])
theorem splitF_len (k : List UInt8) : (splitF k).2.1.length = 16 := by
  unfold splitF; split
  · rfl
  · split
    · simp; omega
    · rfl
theorem buildZero (w : World) : (Instr.build 31 #[]).run Try.prog w = .ok (gv z16) w := by kernel_rfl
theorem strOf_nil : strOf [] = (ByteArray.mk #[]) := rfl

set_option maxHeartbeats 400000 in
theorem split_spec (v : Value) (k : List UInt8) (w : World) (hv : BS w v k) :
    Calls Try.prog 14 #[v] w fun e w' => SplitPost w k e w' := by
  obtain ⟨a, n, c, rfl, hs⟩ := hv
  have hn := hs.len1
  have hle := hs.le
  have hmx := hs.max
  unfold maxLen at hmx
  have HN := Lib.hid hn; clear hn
  have HSL := Lib.hid hs; clear hs
  have h0 : Below w.heap.size w (w.alloc (.cells (bvs z16).toArray 31)) := (Below.refl _ w).alloc (Nat.le_refl _) _
  have H0 := Lib.hid h0; clear h0
  by_cases hlt : n < 16
  · have hf : splitF k = ([], z16, false) := by unfold splitF; rw [if_pos (by rw [HN.out]; exact hlt)]
    have HF := Lib.hid hf; clear hf
    go_enter Try.func14, Try.ntmps14
    go_wp2_with (first
      | ((with_reducible show wpList _ _ _ (Oper.mk _ (Op.alloc _) _ _ _ _ :: _) _ _); refine wpl_alloc rfl 31 rfl _ (allocG _) ?_)
      | ((with_reducible show wpList _ _ _ (Oper.mk _ (Op.build _ _) _ _ _ _ :: _) _ _); refine wpl_build rfl 31 _ rfl _ rfl _ (buildZero _) ?_)
      | ((with_reducible show wpList _ _ _ (Oper.mk _ (Op.store _ _ _) _ _ _ _ :: _) _ _); refine wpl_store_all (n := 16) rfl 31 _ _ rfl TG.sizeOf w.heap.size rfl (gv z16) rfl (cs := bvs z16) (by simp [gv, Value.cells]) rfl (heap_alloc_new w _) (.inl (Nat.le_refl _)) rfl (bvs_one _) ?_; intro w1 hg hch hsz1))
    have hb : Below w.heap.size w w1 := H0.out.trans (hch.below (fun i hi e => by omega) (by simp))
    exact bodyPost_ret (results_tct rfl rfl (run_loadVar_at TG (cs := bvs z16) rfl (cells_of_block hg))) rfl ⟨hb, by rw [HF.out]; rfl⟩
  · have hsl : BS (w.alloc (.cells (bvs z16).toArray 31)) (.slice a n c) k := ⟨a, n, c, rfl, HSL.out.below H0.out⟩
    have HSW := Lib.hid hsl; clear hsl
    have hd16 : k.length - 16 ≤ 9223372036854775807 := by rw [HN.out]; omega
    go_enter Try.func14, Try.ntmps14
    go_wp2_with (first
      | ((with_reducible show wpList _ _ _ (Oper.mk _ (Op.alloc _) _ _ _ _ :: _) _ _); refine wpl_alloc rfl 31 rfl _ (allocG _) ?_)
      | ((with_reducible show wpList _ _ _ (Oper.mk _ (Op.slice _ _ _ _ _) _ _ _ _ :: _) _ _); refine wpl_slice rfl 28 _ _ _ rfl TB _ rfl HSW.out n 16 n (by simp [HN.out]) (by omega) (.inr ⟨_, rfl⟩) (.inl ⟨rfl, rfl⟩) (by omega) (Nat.le_refl _) ?_; intro v' hv' hvb)
      | ((with_reducible show wpList _ _ _ (Oper.mk _ (Op.convert _ _ _) _ _ _ _ :: _) _ _); refine wpl_bytes_str (bs := k.drop 16) rfl _ 9 28 rfl Try.underlying9 Try.underlying28 Try.underlying5 v' rfl (by rw [List.take_of_length_le (by simp [HN.out])] at hv'; rw [Nat.mul_one, bvs_drop] at hv'; exact hv') ?_))
    refine (right_spec _ _ (by rw [strOf_size, List.length_drop]; unfold maxLen; omega)).mono ?_
    rintro e w1 ⟨rfl, hb⟩
    have hb1 : Below w.heap.size w w1 := H0.out.trans (hb.mono (by simp))
    have hblk : w1.heap[w.heap.size]? = some (.cells (bvs z16).toArray 31) := (hb.block _ (by simp)).trans (heap_alloc_new w _)
    have HB := Lib.hid hb1; clear hb1 hb
    have HG := Lib.hid hblk; clear hblk
    have e0 : (strOf (k.drop 16)).data.toList = k.drop 16 := by simp
    cases hr : rightB (strOf (k.drop 16)).data.toList
    · have hf : splitF k = ([], z16, false) := by
        unfold splitF; rw [if_neg (by rw [HN.out]; exact hlt), if_neg (by rw [e0] at hr; rw [hr]; simp)]
      have HF := Lib.hid hf; clear hf hr e0
      go_wp2_with (first
        | ((with_reducible show wpList _ _ _ (Oper.mk _ (Op.build _ _) _ _ _ _ :: _) _ _); refine wpl_build rfl 31 _ rfl _ rfl _ (buildZero _) ?_)
        | ((with_reducible show wpList _ _ _ (Oper.mk _ (Op.store _ _ _) _ _ _ _ :: _) _ _); refine wpl_store_all (n := 16) rfl 31 _ _ rfl TG.sizeOf w.heap.size rfl (gv z16) rfl (cs := bvs z16) (by simp [gv, Value.cells]) rfl HG.out (.inl (Nat.le_refl _)) rfl (bvs_one _) ?_; intro w2 hg hch hsz2))
      have hb : Below w.heap.size w w2 := HB.out.trans (hch.below (fun i hi e => by omega) (HB.out.size))
      exact bodyPost_ret (results_tct rfl rfl (run_loadVar_at TG (cs := bvs z16) rfl (cells_of_block hg))) rfl ⟨hb, by rw [HF.out]; rfl⟩
    · have hf : splitF k = (k.drop 16, k.take 16, true) := by
        unfold splitF; rw [if_neg (by rw [HN.out]; exact hlt), if_pos (by rw [e0] at hr; exact hr)]
      have HF := Lib.hid hf; clear hf hr e0
      go_wp2_with fail
      obtain ⟨b, o, rfl, _⟩ := HSL.out.addr (by omega) (by omega)
      have hcut := (HSL.out.below HB.out.drew).cut (lo := 0) (hi := 16) (by omega) (by omega)
      simp only [show ¬ c = 0 by omega, if_false, Option.map_some, Addr.add, if_true, Nat.sub_zero, Nat.mul_one, List.drop_zero, bvs_take] at hcut
      have hsl2 : ∀ (ρ : Operand → Value) (o' : Oper) (x : Operand), o'.op = .slice 28 x none (some (.const (.int .i64 16))) none → (∀ u, ρ (.const u) = u) → ρ x = .slice (some ⟨b, o, none⟩) n c → (execOp ρ o').run Try.prog w1.drew = .ok (.value (.slice (some ⟨b, o, none⟩) 16 c)) w1.drew := fun ρ o' x h1 h2 h3 => by
        have := exec_slice (P := Try.prog) (w := w1.drew) (l := 0) (h := 16) h1 TB h3 (.inl ⟨rfl, rfl⟩) (.inr ⟨.i64, by simp [h2]⟩) (by omega) (by omega)
        simpa [show ¬ c = 0 by omega, Addr.add] using this
      have hld := run_loadVar_at TG (w := w1.drew) (ad := ⟨b, o, none⟩) (cs := bvs (k.take 16)) (by simp [HN.out]; omega) (hcut.cell _ rfl)
      have hbB : b < w.heap.size := by
        obtain ⟨hl0⟩ : Nonempty (0 < (bvs k).length) := ⟨by simp [HN.out]; omega⟩
        exact World.block_lt_of_cell? w ⟨b, o, none⟩ (by have := HSL.out.cell _ rfl 0 _ (List.getElem?_eq_getElem hl0); simpa [Addr.add] using this)
      have HLEN : Hid ((bvs (k.take 16)).length = 16) := by simp [Hid, HN.out]; omega
      let F : World → Prop := fun w' => w'.heap[w.heap.size]? = some (.cells (bvs (k.take 16)).toArray 31 (0, 0))
      let S : World → Prop := fun w' => ∃ cur, w'.heap[w.heap.size]? = some (.cells cur 31 (0, 0)) ∧ cur.size = 16
      let G : World → World → Prop := fun x y => Ch x y (fun i => i = w.heap.size) ∧ (F x → F y) ∧ (S x → S y)
      have hS0 : S w1.drew := ⟨_, HG.out, rfl⟩
      have gr : ∀ x, G x x := fun x => ⟨Ch.refl _ _, id, id⟩
      refine wp_region_rv (by kernel_rfl) (by kernel_rfl) (by kernel_rfl) G
        [.string (strOf (k.drop 16)), .slice (some ⟨b, o, none⟩) n c, .slice (some ⟨b, o, none⟩) 16 c, .pointer (some ⟨b, o, none⟩), gv (k.take 16), .string (strOf (k.drop 16)), undef, .bool true] rfl
        (fun i w' => i = 6 → F w') (gr _) (fun x y z h1 h2 => ⟨h1.1.trans h2.1 (fun _ _ h => h), fun h => h2.2.1 (h1.2.1 h), fun h => h2.2.2 (h1.2.2 h)⟩) (fun i x y _ _ h h3 h6 => h.2.1 (h3 h6)) ?_ ?_
      · intro i op ho x w2 hG hdep hown
        have hcell2 : SlAt w2 1 (some ⟨b, o, none⟩) 16 c (bvs (k.take 16)) := hcut.ch hG.1 (fun ad had e => by obtain rfl := Option.some.inj had; simp at e; omega)
        match i, ho with
        | 0, ho => obtain rfl := Option.some.inj ho; exact .inl ⟨rfl, w2, .inl (exec_move (x := .tmp 5) rfl (hown 5 (by kernel_rfl))), gr _, fun h => by cases h⟩
        | 1, ho => obtain rfl := Option.some.inj ho; exact .inl ⟨rfl, w2, .inl (exec_move (x := .tmp 0) rfl (hown 0 (by kernel_rfl))), gr _, fun h => by cases h⟩
        | 2, ho =>
          obtain rfl := Option.some.inj ho
          refine .inl ⟨rfl, w2, .inl ?_, gr _, fun h => by cases h⟩
          refine (exec_slice (x := .tmp 18) (lo := none) (hi := some (.const (.int .i64 16))) (l := 0) (h := 16) rfl TB ((hdep 1 (by kernel_rfl)).2 18 rfl) (.inl ⟨rfl, rfl⟩) (.inr ⟨.i64, rfl⟩) (by omega) (by omega)).trans ?_
          simp [show ¬ c = 0 by omega, Addr.add]
        | 3, ho => obtain rfl := Option.some.inj ho; exact .inl ⟨rfl, w2, .inl (exec_toArray (x := .tmp 19) (n := 16) (E := 5) rfl (by kernel_rfl) ((hdep 2 (by kernel_rfl)).2 19 rfl) (by omega)), gr _, fun h => by cases h⟩
        | 4, ho => obtain rfl := Option.some.inj ho; exact .inl ⟨rfl, w2, .inl (exec_load (x := .tmp 20) rfl ((hdep 3 (by kernel_rfl)).2 20 rfl) (run_loadVar_at TG HLEN.out (hcell2.cell _ rfl))), gr _, fun h => by cases h⟩
        | 5, ho => obtain rfl := Option.some.inj ho; exact .inl ⟨rfl, w2, .inl (exec_assign (x := .tmp 17) rfl ((hdep 0 (by kernel_rfl)).2 17 rfl)), gr _, fun h => by cases h⟩
        | 6, ho =>
          obtain rfl := Option.some.inj ho
          obtain ⟨cur, hcur, hcs⟩ := hG.2.2 hS0
          have hrun := run_storeVar_at (P := Try.prog) (w := w2) TG.sizeOf (o := 0) hcur (.inl (Nat.le_refl _)) (v := gv (k.take 16)) (cs := bvs (k.take 16)) (by simp [gv, Value.cells]) HLEN.out (by omega) (bvs_one _)
          obtain ⟨c1, c2⟩ := setCells_ch w.heap.size (bvs (k.take 16)) 0 w2
          have hrow := heap_setCells_row w2 w.heap.size 31 (0, 0) (bvs (k.take 16)) 0 cur hcur (by rw [HLEN.out]; omega)
          have hF : F (w2.setCells w.heap.size 0 (bvs (k.take 16))) := by
            show _ = _
            rw [hrow]
            have : cur.toList.drop (0 + (bvs (k.take 16)).length) = [] := List.drop_eq_nil_of_le (by simp [hcs, HLEN.out])
            rw [this]; simp
          refine .inl ⟨rfl, _, .inr ⟨exec_store (x := .tmp 3) (y := .tmp 21) rfl ((hown 3 (by kernel_rfl)).trans rfl) ((hdep 4 (by kernel_rfl)).2 21 rfl) hrun, rfl⟩, ⟨c1, fun _ => hF, fun _ => ⟨_, hF, by simpa using HLEN.out⟩⟩, fun _ => hF⟩
        | 7, ho => obtain rfl := Option.some.inj ho; exact .inl ⟨rfl, w2, .inl (exec_assign (x := .const (.bool true)) rfl rfl), gr _, fun h => by cases h⟩
        | i + 8, ho => simp at ho
      · intro w2 hG hall
        have hF : F w2 := hall 6 (by decide) rfl
        have hb : Below w.heap.size w w2 := HB.out.drew.trans (hG.1.below (fun i hi e => by omega) (HB.out.size))
        simp only [List.map_cons, List.map_nil, putZ, Act.put, List.setIfInBounds_toArray, List.set_cons_succ, List.set_cons_zero]
        go_wp2_with fail
        exact bodyPost_ret (results_tct rfl rfl (run_loadVar_at TG HLEN.out (cells_of_block hF))) rfl ⟨hb, by rw [HF.out]; rfl⟩
end Go.Proofs.Ytccelefolepmeaa
