/- The walk of the statement VnameNames. Conditions: the arguments fit their kinds. -/
import Derived.Test.YtccelefolepmeaaVn8
import Derived.Test.YtccelefolepmeaaOp
namespace Go.Proofs.Ytccelefolepmeaa
open Go.RowKit
set_option linter.unusedVariables false

theorem rightB_take {l : List UInt8} {n : Nat} (hn : l.length = n) : rightB l = (decide ((1 : Int) ≤ (n : Int)) && decide ((n : Int) ≤ 64) && (l.take n).all okC) := by
  rw [List.take_of_length_le (by omega)]
  unfold rightB
  rw [hn]
  have e1 : decide (1 ≤ n) = decide ((1 : Int) ≤ (n : Int)) := by rw [decide_eq_decide]; omega
  have e2 : decide (n ≤ 64) = decide ((n : Int) ≤ 64) := by rw [decide_eq_decide]; omega
  rw [e1, e2, Bool.and_assoc, Bool.and_comm]
theorem all_take_succ {l : List UInt8} {k : Nat} {x : UInt8} (h : k < l.length) (hx : x = l.getD k 0) : (l.take (k + 1)).all okC = ((l.take k).all okC && okC x) := by
  rw [List.take_succ_eq_append_getElem h, List.all_append]
  have : l[k] = x := by rw [hx]; simp [List.getD, h]
  simp [this]
theorem rightB_set {l : List UInt8} {i : Nat} {b : UInt8} (h : rightB l = true) (hi : i < l.length) : rightB (l.set i b) = okC b := by
  unfold rightB at h ⊢
  simp only [Bool.and_eq_true, decide_eq_true_eq] at h
  rw [List.length_set]
  simp only [h.1.2, h.2, decide_true, Bool.and_true]
  rw [Bool.eq_iff_iff]
  simp only [List.all_eq_true]
  constructor
  · intro h'
    exact h' b (List.mem_iff_getElem.2 ⟨i, by simpa using hi, by simp⟩)
  · intro hb x hx
    rcases List.mem_or_eq_of_mem_set hx with hx | rfl
    · exact List.all_eq_true.1 h.1.1 x hx
    · exact hb
theorem okC_val (b : UInt8) : okC b = (decide ((32 : Int) < (b.toNat : Int)) && decide ((b.toNat : Int) < 127)) := by
  unfold okC
  have e1 : decide (33 ≤ (b.toNat : Int)) = decide ((32 : Int) < (b.toNat : Int)) := by rw [decide_eq_decide]; omega
  have e2 : decide ((b.toNat : Int) ≤ 126) = decide ((b.toNat : Int) < 127) := by rw [decide_eq_decide]; omega
  rw [e1, e2]
theorem bvs_set (l : List UInt8) (i : Nat) (b : UInt8) : (bvs l).set i (bv b) = bvs (l.set i b) := by
  simp [bvs, List.map_set]
theorem sizeU8' (w : World) : (sizeOf 5).run Try.prog w = .ok 1 w := by kernel_rfl

set_option maxHeartbeats 4000000 in
theorem walk_VnameNames (s : ByteArray) (ws : s.size ≤ maxLen) (at_ : Int) (wat : (Lit.int .u16 at_).wf = true) (b : Int) (wby : (Lit.int .u8 b).wf = true) (w : World) :
    Calls Try.prog 4 #[.string s, .int .u16 at_, .int .u8 b] w fun e w' => e = .returned (.bool true) ∧ Below w.heap.size w w' := by
  obtain ⟨by_, hby⟩ := bv_of_wf wby
  have hbe : b = (by_.toNat : Int) := by simpa [bv] using hby
  obtain ⟨at0, at1⟩ := bounds_u16 wat
  subst hbe
  clear hby wby wat
  obtain ⟨an, rfl⟩ := Int.eq_ofNat_of_zero_le at0
  have WS := Lib.hid ws
  unfold maxLen at ws
  obtain ⟨l, hl⟩ : ∃ l, l = s.data.toList := ⟨_, rfl⟩
  have hsz : l.length = s.size := by rw [hl]; simp
  have HS := Lib.hid hsz; clear hsz
  have HL := Lib.hid hl; clear hl
  by_cases hbig : 4096 < s.size
  · go_enter Try.func4, Try.ntmps4
    go_wp2_with fail
    refine (works_spec _).mono ?_
    rintro e w1 ⟨rfl, hb⟩
    have HB := Lib.hid hb; clear hb
    go_wp2_with fail
    go_ret
    exact ⟨rfl, HB.out⟩
  · obtain ⟨F, hF⟩ : ∃ F : Nat → Bool, F = fun k => (decide ((1 : Int) ≤ (s.size : Int)) && decide ((s.size : Int) ≤ 64) && (l.take k).all okC) := ⟨_, rfl⟩
    have hF0 : F 0 = (decide ((1 : Int) ≤ (s.size : Int)) && decide ((s.size : Int) ≤ 64)) := by rw [hF]; simp
    have hFn : rightB l = F s.size := by rw [hF]; exact rightB_take HS.out
    have hFs : ∀ k x, k < l.length → x = l.getD k 0 → F (k + 1) = (F k && okC x) := by
      intro k x hk hx; rw [hF]; simp only [all_take_succ hk hx, Bool.and_assoc]
    have HF0 := Lib.hid hF0; clear hF0
    have HFN := Lib.hid hFn; clear hFn
    have HFS := Lib.hid hFs; clear hFs hF
    by_cases h1 : 1 ≤ s.size
    · have HST : Hid (F 0 = decide ((s.size : Int) ≤ 64)) := by show _ = _; rw [HF0.out, decide_eq_true (show (1 : Int) ≤ (s.size : Int) by omega), Bool.true_and]
      go_enter Try.func4, Try.ntmps4
      go_wp2_with fail
      go_loop [7, 8] (fun f i => ∃ k : Nat, k ≤ s.size ∧ i = .int .i64 k ∧ f = .bool (F k)) (fun _ i => s.size - (intOf i).toNat)
      case atStart => exact ⟨0, Nat.zero_le _, rfl, by rw [HST.out]⟩
      case round =>
        obtain ⟨k, hk, rfl, rfl⟩ := hrel
        by_cases hlt : k < s.size
        · have hx := getElem_data s hlt
          have HX : Hid (s[k] = l.getD k 0) := by show _ = _; rw [HL.out]; exact hx
          clear hx
          have step := HFS.out k (s[k]) (by rw [HS.out]; exact hlt) HX.out
          cases hfk : F k
          · have e : F (k + 1) = false := by rw [step, hfk]; rfl
            have E := Lib.hid e; clear e step hfk
            go_wp2_with fail
            go_roundw
            case rel => exact ⟨k + 1, by omega, by go_num, by rw [E.out]⟩
            case measure => simp [intOf]; omega
          · have e : F (k + 1) = okC s[k] := by rw [step, hfk]; rfl
            have E := Lib.hid e; clear e step hfk
            have O := Lib.hid (okC_val s[k])
            go_wp2_with fail
            all_goals
              go_roundw
              case rel => exact ⟨k + 1, by omega, by go_num, by rw [E.out, O.out]; simp; omega⟩
              case measure => simp [intOf]; omega
        · obtain rfl : k = s.size := by omega
          go_wp2_with fail
          refine (right_spec _ _ WS.out).mono ?_
          rintro e w1 ⟨rfl, hb⟩
          rw [← HL.out, HFN.out]
          have HB := Lib.hid hb; clear hb
          cases hr : F s.size
          · go_wp2_with fail
            refine (works_spec _).mono ?_
            rintro e w2 ⟨rfl, hb⟩
            have HB2 := Lib.hid hb; clear hb
            go_wp2_with fail
            go_ret
            exact ⟨rfl, HB.out.trans (HB2.out.mono HB.out.size)⟩
          · have hrl : rightB l = true := by rw [HFN.out, hr]
            have HRL := Lib.hid hrl; clear hrl hr
            have hml : an % s.size < s.size := Nat.mod_lt _ (by omega)
            have OV := Lib.hid (okC_val by_)
            go_wp2_with (first
              | ((with_reducible show wpList _ _ _ (Oper.mk (some 47) (Op.convert _ _ _) _ _ _ _ :: _) _ _); refine wpl_str_bytes rfl _ 9 28 rfl Try.underlying9 Try.underlying28 Try.underlying5 s rfl WS.out ?_; intro cap w2 hown hcell hb2 hsz2; have HO2 := Lib.hid hown; have HB2 := Lib.hid hb2; have HZ2 := Lib.hid hsz2; clear hown hcell hb2 hsz2)
              | ((with_reducible show wpList _ _ _ (Oper.mk _ (Op.store _ _ _) _ _ _ _ :: _) _ _); refine wpl_store_own rfl 5 _ _ rfl sizeU8' HO2.out (an % s.size) hml rfl (bv by_) rfl rfl rfl ?_; intro w3 hown3 hch3 hsz3; have HO3 := Lib.hid hown3; have HC3 := Lib.hid hch3; have HZ3 := Lib.hid hsz3; clear hown3 hch3 hsz3)
              | ((with_reducible show wpList _ _ _ (Oper.mk (some 57) (Op.convert _ _ _) _ _ _ _ :: _) _ _); refine wpl_bytes_str (bs := l.set (an % s.size) by_) rfl _ 9 28 rfl Try.underlying9 Try.underlying28 Try.underlying5 _ rfl (by rw [← HL.out, bvs_set] at HO3; exact HO3.out.sl) ?_))
            refine (right_spec _ _ (by rw [strOf_size, List.length_set, HS.out]; exact WS.out)).mono ?_
            rintro e w4 ⟨rfl, hb4⟩
            rw [show (strOf (l.set (an % s.size) by_)).data.toList = l.set (an % s.size) by_ by simp, rightB_set HRL.out (by rw [HS.out]; exact hml)]
            have hbt : Below w.heap.size w w4 := by
              refine (HB.out.trans (HB2.out.mono HB.out.size)).trans ((HC3.out.below (B := w.heap.size) (fun i hi e => ?_) ?_).trans (hb4.mono ?_))
              · subst e; exact HB.out.size
              · rw [HZ2.out]; have := HB.out.size; omega
              · rw [HZ3.out, HZ2.out]; have := HB.out.size; omega
            have HBT := Lib.hid hbt; clear hbt hb4
            have tail : ∀ e w5, e = Ending.returned (.bool true) ∧ Below w4.heap.size w4 w5 → Hid (Below w.heap.size w w5) := fun e w5 h => HBT.out.trans (h.2.mono HBT.out.size)
            have TAIL := Lib.hid tail; clear tail
            obtain ⟨x, hx⟩ : ∃ x : Int, x = (by_.toNat : Int) := ⟨_, rfl⟩
            have ov := OV.out
            clear OV
            rw [← hx] at ov ⊢
            cases ho : okC by_
            · have hcs : ¬ 32 < x ∨ ¬ x < 127 := by
                rw [ho] at ov
                by_cases h : 32 < x
                · right; intro h'; rw [decide_eq_true h, decide_eq_true h'] at ov; cases ov
                · exact .inl h
              clear ov ho hx
              by_cases hlo : 32 < x
              · have hhi : ¬ x < 127 := hcs.resolve_left (fun h => h hlo)
                clear hcs
                go_wp2_with fail
                refine (works_spec _).mono ?_
                intro e w5 h5
                have HB5 := TAIL.out e w5 h5
                obtain ⟨rfl, _⟩ := h5
                go_wp2_with fail
                go_ret
                exact ⟨rfl, HB5.out⟩
              · clear hcs
                go_wp2_with fail
                refine (works_spec _).mono ?_
                intro e w5 h5
                have HB5 := TAIL.out e w5 h5
                obtain ⟨rfl, _⟩ := h5
                go_wp2_with fail
                go_ret
                exact ⟨rfl, HB5.out⟩
            · have hcs : 32 < x ∧ x < 127 := by
                rw [ho] at ov
                have := (Bool.and_eq_true_iff.1 ov.symm)
                exact ⟨of_decide_eq_true this.1, of_decide_eq_true this.2⟩
              obtain ⟨hlo, hhi⟩ := hcs
              clear ov ho hx
              go_wp2_with fail
              refine (works_spec _).mono ?_
              intro e w5 h5
              have HB5 := TAIL.out e w5 h5
              obtain ⟨rfl, _⟩ := h5
              go_wp2_with fail
              go_ret
              exact ⟨rfl, HB5.out⟩
    · have HST : Hid (F 0 = false) := by show _ = _; rw [HF0.out, decide_eq_false (show ¬ (1 : Int) ≤ (s.size : Int) by omega), Bool.false_and]
      go_enter Try.func4, Try.ntmps4
      go_wp2_with fail
      go_loop [7, 8] (fun f i => ∃ k : Nat, k ≤ s.size ∧ i = .int .i64 k ∧ f = .bool (F k)) (fun _ i => s.size - (intOf i).toNat)
      case atStart => exact ⟨0, Nat.zero_le _, rfl, by rw [HST.out]⟩
      case round =>
        obtain ⟨k, hk, rfl, rfl⟩ := hrel
        by_cases hlt : k < s.size
        · have hx := getElem_data s hlt
          have HX : Hid (s[k] = l.getD k 0) := by show _ = _; rw [HL.out]; exact hx
          clear hx
          have step := HFS.out k (s[k]) (by rw [HS.out]; exact hlt) HX.out
          cases hfk : F k
          · have e : F (k + 1) = false := by rw [step, hfk]; rfl
            have E := Lib.hid e; clear e step hfk
            go_wp2_with fail
            go_roundw
            case rel => exact ⟨k + 1, by omega, by go_num, by rw [E.out]⟩
            case measure => simp [intOf]; omega
          · have e : F (k + 1) = okC s[k] := by rw [step, hfk]; rfl
            have E := Lib.hid e; clear e step hfk
            have O := Lib.hid (okC_val s[k])
            go_wp2_with fail
            all_goals
              go_roundw
              case rel => exact ⟨k + 1, by omega, by go_num, by rw [E.out, O.out]; simp; omega⟩
              case measure => simp [intOf]; omega
        · obtain rfl : k = s.size := by omega
          go_wp2_with fail
          refine (right_spec _ _ WS.out).mono ?_
          rintro e w1 ⟨rfl, hb⟩
          rw [← HL.out, HFN.out]
          have HB := Lib.hid hb; clear hb
          cases hr : F s.size
          · go_wp2_with fail
            refine (works_spec _).mono ?_
            rintro e w2 ⟨rfl, hb⟩
            have HB2 := Lib.hid hb; clear hb
            go_wp2_with fail
            go_ret
            exact ⟨rfl, HB.out.trans (HB2.out.mono HB.out.size)⟩
          · exact absurd hr (by rw [show s.size = 0 by omega, HST.out]; simp)
end Go.Proofs.Ytccelefolepmeaa
