/- Walks of bank: parse. Conditions: none. -/
import Derived.Test.YtddocchgikaahaaDoorBk5
import Derived.Test.YtddocchgikaahaaDoorAp
namespace Go.Proofs.YtddocchgikaahaaDoor
open Go.RowKit
set_option linter.unusedVariables false
set_option linter.unusedSimpArgs false
set_option maxRecDepth 100000
theorem strOf_eq (a b : List UInt8) : decide ((strOf a).data.toList = (strOf b).data.toList) = decide (a = b) := by rw [Bool.eq_iff_iff, decide_eq_true_iff, decide_eq_true_iff]; simp [strOf]
theorem equal_vc (a b : List UInt8) (z z' : Nat) : Spec Tryd.prog 43 [.bs z a, .bs z' b] [] (pst (.val (.bool (decide (a = b)))) []) := by
  refine spec_entry tbOk Tryd.func43 rfl Tryd.ntmps43 Tryd.results43 ?_
  (repeat (first | refine gos (k := ?_) | refine fun (_ : _ = false) => ?_ | refine ⟨fun (_ : true = true) => ?_, fun h => absurd h (by decide)⟩ | refine gtr (k := ?_)))
  refine ⟨_, congrArg AV.val (congrArg Value.bool ?_), rfl⟩
  exact strOf_eq a b
theorem equal_own (a : List UInt8) (z : Nat) (b : List UInt8) (n v : Nat) (hn : n = b.length) : Spec Tryd.prog 43 [.bs z a, .own 0 v 1 0 n] [⟨v, .bytes b⟩] (pms (.val (.bool (decide (a = b)))) [⟨v, .bytes b⟩] []) := by
  subst hn
  have := spec_ro (spec_pms (equal_vc a ((b.drop 0).take b.length) 0 0)) trivial trivial (rows := [⟨v, .bytes b⟩]) (args := [.bs z a, .own 0 v 1 0 b.length]) (asL_cons as_bs (asL_cons (as_own (l := b) rfl (by omega)) asL_nil))
  rw [whole] at this
  exact this
theorem lay_own (k v : List UInt8) (kn vn : Nat) (hkn : kn = k.length) (hvn : vn = v.length) (hk : k.length ≤ 100000000) (hv : v.length ≤ 100000000) (v0 v1 N : Nat) (hN : N = (layB k v).length) : Spec Tryd.prog 39 [.own 0 v0 1 0 kn, .own 1 v1 1 0 vn] [⟨v0, .bytes k⟩, ⟨v1, .bytes v⟩]
    (pms (.own 32 7 1 0 N) [⟨v0, .bytes k⟩, ⟨v1, .bytes v⟩] [(32, ⟨7, .bytes (layB k v)⟩)]) := by
  subst hkn hvn hN
  have := spec_ro (lay_vc ((k.drop 0).take k.length) ((v.drop 0).take v.length) (by rw [whole]; exact hk) (by rw [whole]; exact hv) 0 0) trivial ⟨trivial, trivial⟩ (rows := [⟨v0, .bytes k⟩, ⟨v1, .bytes v⟩]) (args := [.own 0 v0 1 0 k.length, .own 1 v1 1 0 v.length])
    (asL_cons (as_own (l := k) rfl (by omega)) (asL_cons (as_own (l := v) rfl (by omega)) asL_nil))
  rw [whole, whole] at this
  exact this
/-! a record, as its bytes tell it -/
def recK (x : List UInt8) : Nat := numB ((x.drop 2).take 2)
def recV (x : List UInt8) : Nat := numB ((x.drop 4).take 4)
def recN (x : List UInt8) : Nat := 12 + recK x + recV x
def recKey (x : List UInt8) : List UInt8 := (x.take (12 + recK x)).drop 12
def recVal (x : List UInt8) : List UInt8 := (x.take (recN x)).drop (12 + recK x)
def recIs (x : List UInt8) : Prop := 12 ≤ x.length ∧ (x.getD 0 0 = 252 ∨ x.getD 0 0 = 248) ∧ 1 ≤ recK x ∧ recK x ≤ 255 ∧ recV x ≤ 65536 ∧ recN x ≤ x.length ∧ (x.take (recN x)).drop 1 = layB (recKey x) (recVal x)
instance (x : List UInt8) : Decidable (recIs x) := by unfold recIs; infer_instance
theorem number_k (z : Nat) (x : List UInt8) (h : 12 ≤ x.length) (hx : x.length ≤ 140737488355328) : Spec Tryd.prog 42 [.bs z x, .val (.int .i64 2), .val (.int .i64 2)] [] (pst (.val (.int .i64 (recK x))) []) :=
  number_vc x hx z 2 2 (by unfold I64; omega) (.inl rfl) (by omega)
theorem number_v (z : Nat) (x : List UInt8) (h : 12 ≤ x.length) (hx : x.length ≤ 140737488355328) : Spec Tryd.prog 42 [.bs z x, .val (.int .i64 4), .val (.int .i64 4)] [] (pst (.val (.int .i64 (recV x))) []) :=
  number_vc x hx z 4 4 (by unfold I64; omega) (.inr rfl) (by omega)
theorem recK_le (x : List UInt8) : recK x ≤ 65535 := by
  have h1 := numB_lt ((x.drop 2).take 2)
  have h2 : ((x.drop 2).take 2).length ≤ 2 := by simp; omega
  have h3 : (256 : Nat) ^ ((x.drop 2).take 2).length ≤ 256 ^ 2 := Nat.pow_le_pow_right (by decide) h2
  unfold recK; omega
theorem recV_le (x : List UInt8) : recV x ≤ 4294967295 := by
  have h1 := numB_lt ((x.drop 4).take 4)
  have h2 : ((x.drop 4).take 4).length ≤ 4 := by simp; omega
  have h3 : (256 : Nat) ^ ((x.drop 4).take 4).length ≤ 256 ^ 4 := Nat.pow_le_pow_right (by decide) h2
  unfold recV; omega
theorem u8_ne (b : UInt8) (n : Nat) (hn : n < 256) : ((b.toNat : Int) ≠ (n : Int)) ↔ b ≠ UInt8.ofNat n := by
  constructor
  · intro h q; apply h; rw [q]; simp; omega
  · intro h q; apply h; apply UInt8.toNat_inj.1; simp; omega
def zeroRec : AV := .agg [.val (.slice none 0 0), .val (.slice none 0 0), .val (.bool false)]
/-- it lives -/
def recLv (x : List UInt8) : Bool := decide (((x.getD 0 0).toNat : Int) = 252)
def recAV (x : List UInt8) : AV := .tup [.agg [.own 54 3 1 0 (recKey x).length, .own 60 3 1 0 (recVal x).length, .val (.bool (recLv x))], .val (.int .i64 (recN x))]
def recPost (x : List UInt8) (X : AV) (H : List Ent) : Prop := (¬ recIs x → pms (.tup [zeroRec, .val (.int .i64 0)]) [] [] X H) ∧ (recIs x → pms (recAV x) [] [(54, ⟨3, .bytes (recKey x)⟩), (60, ⟨3, .bytes (recVal x)⟩)] X H)
theorem parse_all (z : Nat) (x : List UInt8) (hx : x.length ≤ 140737488355328) : Spec Tryd.prog 66 [.bs z x] [] (recPost x) := by
  have hk := recK_le x
  have hv := recV_le x
  have hN : recN x = 12 + recK x + recV x := rfl
  refine spec_entry tbOk Tryd.func66 rfl Tryd.ntmps66 Tryd.results66 ?_
  (repeat (first | refine gos (k := ?_) | refine fun (_ : _ = false) => ?_ | refine ⟨fun (_ : true = true) => ?_, fun h => absurd h (by decide)⟩ | refine gtr (k := ?_)))
  refine ⟨fun h => ?_, fun h => ?_⟩
  · (repeat (first | refine gos (k := ?_) | refine fun (_ : _ = false) => ?_ | refine ⟨fun (_ : true = true) => ?_, fun h => absurd h (by decide)⟩ | refine gtr (k := ?_)))
    refine ⟨fun _ => ⟨_, rfl, rfl, trivial⟩, fun hr => ?_⟩
    exfalso
    rw [Bool.or_eq_true] at h
    rcases h with h | h
    · have := of_decide_eq_true h; have := hr.1; omega
    · rw [Bool.and_eq_true, Bool.not_eq_true', Bool.not_eq_true', decide_eq_false_iff_not, decide_eq_false_iff_not] at h
      rcases hr.2.1 with q | q
      · exact h.1 (by show ((x.getD 0 0).toNat : Int) = 252; rw [q]; rfl)
      · exact h.2 (by show ((x.getD 0 0).toNat : Int) = 248; rw [q]; rfl)
  have h0 : x.getD (Int.toNat 0) 0 = x.getD 0 0 := rfl
  rw [h0] at h
  have h12 : 12 ≤ x.length := by
    simp only [Bool.or_eq_false_iff, decide_eq_false_iff_not] at h; omega
  have hst : x.getD 0 0 = 252 ∨ x.getD 0 0 = 248 := by
    rw [Bool.or_eq_false_iff] at h
    have h2 := h.2
    simp only [Bool.and_eq_false_iff, Bool.not_eq_false', decide_eq_true_eq] at h2
    exact h2.imp (fun q => UInt8.toNat_inj.1 (by exact_mod_cast q)) (fun q => UInt8.toNat_inj.1 (by exact_mod_cast q))
  (repeat (first | refine gos (k := ?_) | refine fun (_ : _ = false) => ?_ | refine ⟨fun (_ : true = true) => ?_, fun h => absurd h (by decide)⟩ | refine gtr (k := ?_)))
  refine cdet (number_k z x h12 hx) Tryd.call42 [] ?_
  (repeat (first | refine gos (k := ?_) | refine fun (_ : _ = false) => ?_ | refine ⟨fun (_ : true = true) => ?_, fun h => absurd h (by decide)⟩ | refine gtr (k := ?_)))
  refine cdet (number_v z x h12 hx) Tryd.call42 [] ?_
  (repeat (first | refine gos (k := ?_) | refine fun (_ : _ = false) => ?_ | refine ⟨fun (_ : true = true) => ?_, fun h => absurd h (by decide)⟩ | refine gtr (k := ?_)))
  by_cases hb : recK x < 1 ∨ 255 < recK x ∨ 65536 < recV x
  · have e1 : (decide ((recK x : Int) < 1) || decide (255 < (recK x : Int)) || decide (65536 < (recV x : Int))) = true := by
      simp only [Bool.or_eq_true, decide_eq_true_eq]; omega
    rw [e1]
    (refine sts (k := ?_))
    refine ⟨fun hG => absurd hG (by decide), fun _ => ?_⟩
    (repeat (first | refine gos (k := ?_) | refine fun (_ : _ = false) => ?_ | refine ⟨fun (_ : true = true) => ?_, fun h => absurd h (by decide)⟩ | refine gtr (k := ?_)))
    exact ⟨fun _ => ⟨_, rfl, rfl, trivial⟩, fun hr => absurd hr (by unfold recIs; omega)⟩
  have e1 : (decide ((recK x : Int) < 1) || decide (255 < (recK x : Int)) || decide (65536 < (recV x : Int))) = false := by
    simp only [Bool.or_eq_false_iff, decide_eq_false_iff_not]; omega
  rw [e1]
  refine gcl (k := ?_)
  refine cdet (need_vc (recK x) (recV x) (by omega) (by omega)) Tryd.call17 [] ?_
  (repeat (first | refine gos (k := ?_) | refine fun (_ : _ = false) => ?_ | refine ⟨fun (_ : true = true) => ?_, fun h => absurd h (by decide)⟩ | refine gtr (k := ?_)))
  refine ⟨fun h => ?_, fun h => ?_⟩
  · (repeat (first | refine gos (k := ?_) | refine fun (_ : _ = false) => ?_ | refine ⟨fun (_ : true = true) => ?_, fun h => absurd h (by decide)⟩ | refine gtr (k := ?_)))
    have h2 : x.length < 12 + recK x + recV x := by
      rw [Bool.false_or] at h
      have := of_decide_eq_true h; omega
    exact ⟨fun _ => ⟨_, rfl, rfl, trivial⟩, fun hr => absurd hr (by unfold recIs; omega)⟩
  have h2 : 12 + recK x + recV x ≤ x.length := by
    rw [Bool.false_or] at h
    have := of_decide_eq_false h; omega
  (repeat (first | refine gos (k := ?_) | refine fun (_ : _ = false) => ?_ | refine ⟨fun (_ : true = true) => ?_, fun h => absurd h (by decide)⟩ | refine gtr (k := ?_)))
  refine cdet (need_vc (recK x) (recV x) (by omega) (by omega)) Tryd.call17 [] ?_
  (repeat (first | refine gos (k := ?_) | refine fun (_ : _ = false) => ?_ | refine ⟨fun (_ : true = true) => ?_, fun h => absurd h (by decide)⟩ | refine gtr (k := ?_)))
  (refine sts (k := ?_))
  refine draw_of (p := 0) tbOk hm [0, 0, 2, 7, 15, 0, 0, 64, 0, 480, 1023, 0, 2048, 6144, 14336, 32767, 0, 131071] [⟨0, false, false, []⟩, ⟨1, false, false, []⟩, ⟨2, false, false, []⟩, ⟨3, false, false, []⟩, ⟨5, false, false, []⟩, ⟨6, false, false, []⟩, ⟨7, false, false, []⟩, ⟨8, false, false, []⟩, ⟨9, false, false, []⟩, ⟨11, false, false, []⟩, ⟨12, false, false, []⟩, ⟨13, false, false, []⟩, ⟨14, false, false, []⟩, ⟨16, false, false, [7]⟩, ⟨4, true, true, [55, 56, 57, 58, 59, 60, 61, 62, 63, 64, 65, 7]⟩, ⟨10, true, true, [61, 62, 63, 64, 65, 7]⟩, ⟨15, true, false, [7]⟩, ⟨17, true, true, []⟩] (by kernel_rfl) ?_
  (repeat (first | refine gos (k := ?_) | refine fun (_ : _ = false) => ?_ | refine ⟨fun (_ : true = true) => ?_, fun h => absurd h (by decide)⟩ | refine gtr (k := ?_)))
  have hkey : List.drop (Int.toNat 12) (List.take ((12 : Int) + (recK x : Int)).toNat x) = recKey x := by
    unfold recKey; rw [show ((12 : Int) + (recK x : Int)).toNat = 12 + recK x by omega]; rfl
  have hval : List.drop ((12 : Int) + (recK x : Int)).toNat (List.take ((12 : Int) + (recK x : Int) + (recV x : Int)).toNat x) = recVal x := by
    unfold recVal; rw [hN, show ((12 : Int) + (recK x : Int)).toNat = 12 + recK x by omega, show ((12 : Int) + (recK x : Int) + (recV x : Int)).toNat = 12 + recK x + recV x by omega]
  have hkl : (recKey x).length = recK x := by unfold recKey; rw [List.length_drop, List.length_take]; omega
  have hvl : (recVal x).length = recV x := by unfold recVal; rw [hN, List.length_drop, List.length_take]; omega
  rw [hkey]
  refine cmks (clone0_vc (recKey x) (by omega) z) Tryd.call44 0 [0, 0, 0, 0, 0, 54] [0, 0, 0, 0, 0, 1] [5] ?_
  (repeat (first | refine gos (k := ?_) | refine fun (_ : _ = false) => ?_ | refine ⟨fun (_ : true = true) => ?_, fun h => absurd h (by decide)⟩ | refine gtr (k := ?_)))
  rw [hval]
  refine cmks (clone0_vc (recVal x) (by omega) z) Tryd.call44 0 [0, 0, 0, 0, 0, 60] [0, 0, 0, 0, 0, 1] [5] ?_
  (repeat (first | refine gos (k := ?_) | refine fun (_ : _ = false) => ?_ | refine ⟨fun (_ : true = true) => ?_, fun h => absurd h (by decide)⟩ | refine gtr (k := ?_)))
  (refine sts (k := ?_))
  refine draw_of (p := 0) tbOk hm [0, 0, 3, 0, 8, 0, 32, 120, 255, 511] [⟨0, false, false, []⟩, ⟨1, false, false, []⟩, ⟨2, false, false, []⟩, ⟨3, true, false, [66, 67, 68, 70, 71, 72, 73, 74, 75]⟩, ⟨4, true, false, [66, 67, 68, 71, 72, 73, 74, 75]⟩, ⟨5, true, false, [66, 67, 68, 69, 70, 72, 73, 74, 75]⟩, ⟨6, true, false, [66, 67, 68, 69, 70, 73, 74, 75]⟩, ⟨7, true, true, [66, 67, 68, 74, 75]⟩, ⟨8, true, true, [75]⟩, ⟨9, false, false, []⟩] (by kernel_rfl) ?_
  (repeat (first | refine gos (k := ?_) | refine fun (_ : _ = false) => ?_ | refine ⟨fun (_ : true = true) => ?_, fun h => absurd h (by decide)⟩ | refine gtr (k := ?_)))
  refine cmks (lay_own (recKey x) (recVal x) (recKey x).length (recVal x).length rfl rfl (by omega) (by omega) 3 3 _ rfl) Tryd.call39 2 [54, 60, 0, 0, 0, 0, 0, 0, 0, 0, 0, 0, 0, 0, 0, 0, 0, 0, 0, 0, 0, 0, 0, 0, 0, 0, 0, 0, 0, 0, 0, 0, 73] [0, 0, 0, 0, 0, 0, 0, 0, 0, 0, 0, 0, 0, 0, 0, 0, 0, 0, 0, 0, 0, 0, 0, 0, 0, 0, 0, 0, 0, 0, 0, 0, 1] [32] ?_
  (repeat (first | refine gos (k := ?_) | refine fun (_ : _ = false) => ?_ | refine ⟨fun (_ : true = true) => ?_, fun h => absurd h (by decide)⟩ | refine gtr (k := ?_)))
  refine cmks (equal_own _ z (layB (recKey x) (recVal x)) (layB (recKey x) (recVal x)).length 8 rfl) Tryd.call43 1 [73] [0] [] ?_
  (repeat (first | refine gos (k := ?_) | refine fun (_ : _ = false) => ?_ | refine ⟨fun (_ : true = true) => ?_, fun h => absurd h (by decide)⟩ | refine gtr (k := ?_)))
  have hbody : List.drop (Int.toNat 1) (List.take ((12 : Int) + (recK x : Int) + (recV x : Int)).toNat x) = (x.take (recN x)).drop 1 := by
    rw [hN, show ((12 : Int) + (recK x : Int) + (recV x : Int)).toNat = 12 + recK x + recV x by omega]; rfl
  rw [hbody]
  refine ⟨fun h => ?_, fun h => ?_⟩
  · (repeat (first | refine gos (k := ?_) | refine fun (_ : _ = false) => ?_ | refine ⟨fun (_ : true = true) => ?_, fun h => absurd h (by decide)⟩ | refine gtr (k := ?_)))
    have hne : ¬ (x.take (recN x)).drop 1 = layB (recKey x) (recVal x) := by simpa using h
    exact ⟨fun _ => ⟨_, rfl, rfl, trivial⟩, fun hr => absurd hr.2.2.2.2.2.2 hne⟩
  · (repeat (first | refine gos (k := ?_) | refine fun (_ : _ = false) => ?_ | refine ⟨fun (_ : true = true) => ?_, fun h => absurd h (by decide)⟩ | refine gtr (k := ?_)))
    have he : (x.take (recN x)).drop 1 = layB (recKey x) (recVal x) := by simpa using h
    have hr : recIs x := ⟨h12, hst, by omega, by omega, by omega, by omega, he⟩
    refine ⟨fun q => absurd hr q, fun _ => ⟨_, ?_, rfl, rfl, rfl, trivial⟩⟩
    unfold recAV recLv
    rw [hN]
    rfl
theorem parse_none (z : Nat) (x : List UInt8) (hx : x.length ≤ 140737488355328) (h : ¬ recIs x) : Spec Tryd.prog 66 [.bs z x] [] (pms (.tup [zeroRec, .val (.int .i64 0)]) [] []) :=
  spec_mono (parse_all z x hx) fun _ _ q => q.1 h
theorem parse_some (z : Nat) (x : List UInt8) (hx : x.length ≤ 140737488355328) (h : recIs x) : Spec Tryd.prog 66 [.bs z x] [] (pms (recAV x) [] [(54, ⟨3, .bytes (recKey x)⟩), (60, ⟨3, .bytes (recVal x)⟩)]) :=
  spec_mono (parse_all z x hx) fun _ _ q => q.2 h
end Go.Proofs.YtddocchgikaahaaDoor
