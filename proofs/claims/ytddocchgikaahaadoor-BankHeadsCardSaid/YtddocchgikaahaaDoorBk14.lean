/- Walks of lintellaw08: no bank. Conditions: none. -/
import Derived.Test.YtddocchgikaahaaDoorBk13
import Derived.Test.YtddocchgikaahaaDoorAg0
namespace Go.Proofs.YtddocchgikaahaaDoor
open Go.RowKit
set_option linter.unusedVariables false
set_option linter.unusedSimpArgs false
set_option maxRecDepth 100000
set_option maxHeartbeats 1500000
theorem bnil_format (g : Int) : Spec Tryd.prog 12 [.val (.pointer none), .val (.int .u32 g)] [] (pms (.val (.int .i64 2)) [] []) := by
  refine spec_entry tbOk Tryd.func12 rfl Tryd.ntmps12 Tryd.results12 ?_
  (repeat (first | refine gos (k := ?_) | refine fun (_ : _ = false) => ?_ | refine ⟨fun (_ : true = true) => ?_, fun h => absurd h (by decide)⟩ | refine gtr (k := ?_)))
  exact ⟨_, rfl, rfl, trivial⟩
theorem bnil_ready : Spec Tryd.prog 13 [.val (.pointer none)] [] (pms (.val (.int .i64 2)) [] []) := by
  refine spec_entry tbOk Tryd.func13 rfl Tryd.ntmps13 Tryd.results13 ?_
  (repeat (first | refine gos (k := ?_) | refine fun (_ : _ = false) => ?_ | refine ⟨fun (_ : true = true) => ?_, fun h => absurd h (by decide)⟩ | refine gtr (k := ?_)))
  exact ⟨_, rfl, rfl, trivial⟩
theorem bnil_head : Spec Tryd.prog 19 [.val (.pointer none)] [] (pms (.tup [.val (.int .u32 0), .val (.bool false), .val (.int .i64 2)]) [] []) := by
  refine spec_entry tbOk Tryd.func19 rfl Tryd.ntmps19 Tryd.results19 ?_
  (repeat (first | refine gos (k := ?_) | refine fun (_ : _ = false) => ?_ | refine ⟨fun (_ : true = true) => ?_, fun h => absurd h (by decide)⟩ | refine gtr (k := ?_)))
  exact ⟨_, rfl, rfl, trivial⟩
theorem bnil_scan : Spec Tryd.prog 30 [.val (.pointer none)] [] (pms (.tup [.val (.slice none 0 0), .val (.int .i64 0), .val (.bool false), .val (.int .i64 2)]) [] []) := by
  refine spec_entry tbOk Tryd.func30 rfl Tryd.ntmps30 Tryd.results30 ?_
  (repeat (first | refine gos (k := ?_) | refine fun (_ : _ = false) => ?_ | refine ⟨fun (_ : true = true) => ?_, fun h => absurd h (by decide)⟩ | refine gtr (k := ?_)))
  exact ⟨_, rfl, rfl, trivial⟩
theorem bnil_add (k v : AV) : Spec Tryd.prog 15 [.val (.pointer none), .any, .any] [] (pms (.val (.int .i64 2)) [] []) := by
  refine spec_entry tbOk Tryd.func15 rfl Tryd.ntmps15 Tryd.results15 ?_
  (repeat (first | refine gos (k := ?_) | refine fun (_ : _ = false) => ?_ | refine ⟨fun (_ : true = true) => ?_, fun h => absurd h (by decide)⟩ | refine gtr (k := ?_)))
  exact ⟨_, rfl, rfl, trivial⟩
theorem bnil_kill (i : Int) : Spec Tryd.prog 26 [.val (.pointer none), .val (.int .i64 i)] [] (pms (.val (.int .i64 2)) [] []) := by
  refine spec_entry tbOk Tryd.func26 rfl Tryd.ntmps26 Tryd.results26 ?_
  (repeat (first | refine gos (k := ?_) | refine fun (_ : _ = false) => ?_ | refine ⟨fun (_ : true = true) => ?_, fun h => absurd h (by decide)⟩ | refine gtr (k := ?_)))
  exact ⟨_, rfl, rfl, trivial⟩
theorem bnil_room : Spec Tryd.prog 14 [.val (.pointer none)] [] (pms (.val (.int .i64 0)) [] []) := by
  refine spec_entry tbOk Tryd.func14 rfl Tryd.ntmps14 Tryd.results14 ?_
  (repeat (first | refine gos (k := ?_) | refine fun (_ : _ = false) => ?_ | refine ⟨fun (_ : true = true) => ?_, fun h => absurd h (by decide)⟩ | refine gtr (k := ?_)))
  exact ⟨_, rfl, rfl, trivial⟩
theorem records_nil : Spec Tryd.prog 40 [.val (.slice none 0 0)] [] (pms (.val (.slice none 0 0)) [] []) := by
  refine spec_entry tbOk Tryd.func40 rfl Tryd.ntmps40 Tryd.results40 ?_
  (repeat (first | refine gos (k := ?_) | refine fun (_ : _ = false) => ?_ | refine ⟨fun (_ : true = true) => ?_, fun h => absurd h (by decide)⟩ | refine gtr (k := ?_)))
  (refine sts (k := ?_))
  conv => whnf
  refine loop_at (fun i : Nat => i = 0) (fun i => i) 0 [3, 4, 5, 6, 7, 8, 9, 10, 11, 12, 13, 14, 15, 16, 17, 18, 19, 20, 21, 22, 23, 24, 25, 26, 27, 28, 29, 30, 31, 32, 33, 34, 35, 36, 37, 38, 39, 40, 41, 42, 43, 44, 45, 46, 47, 48, 49, 50, 51, 52, 53, 54, 55, 56, 57, 58, 59, 60, 61, 62, 63, 64, 65, 66, 67] (fun i => [(3, .val (.slice none 0 0)), (4, .val (.int .i64 0))]) (fun i => []) 0 rfl ?_ ?_ ?_
  · ((try dsimp only [lpS, anyT, putT, setL]); (repeat (refine And.intro (by first | exact trivial | exact rfl) ?_)); (first | exact trivial | skip))
  · ((try dsimp only [lpS, deadH, putH, setL, Nat.reduceAdd, Nat.zero_add]); (repeat (refine And.intro (by first | exact rfl | exact trivial) ?_)); (first | exact trivial | skip))
  · rintro i v rfl
    (dsimp only [lpS, anyT, putT, setL, deadH, putH, Nat.reduceAdd, Nat.zero_add])
    (repeat (first | refine gos (k := ?_) | refine fun (_ : _ = false) => ?_ | refine ⟨fun (_ : true = true) => ?_, fun h => absurd h (by decide)⟩ | refine gtr (k := ?_)))
    exact ⟨_, rfl, rfl, trivial⟩
theorem twin8_vc (z : Nat) (m : List UInt8) (hl : m.length ≤ 140737488355328) : Spec Tryd.prog 16 [.bs z m] [] (pms (.own 3 2 1 0 m.length) [] [(3, ⟨2, .bytes m⟩)]) := by
  refine spec_entry tbOk Tryd.func16 rfl Tryd.ntmps16 Tryd.results16 ?_
  (repeat (first | refine gos (k := ?_) | refine fun (_ : _ = false) => ?_ | refine ⟨fun (_ : true = true) => ?_, fun h => absurd h (by decide)⟩ | refine gtr (k := ?_)))
  conv => whnf
  refine ⟨m, ?_⟩
  conv => whnf
  refine And.intro ?_ ?_
  · refine ⟨rfl, trivial, rfl, rfl, rfl, rfl, rfl, rfl, ?_, by decide⟩
    simp only [List.map_nil, List.length_nil]
    omega
  (repeat (first | refine gos (k := ?_) | refine fun (_ : _ = false) => ?_ | refine ⟨fun (_ : true = true) => ?_, fun h => absurd h (by decide)⟩ | refine gtr (k := ?_)))
  refine ⟨_, ?_, rfl, rfl, trivial⟩
  simp only [retV, List.map_nil, List.length_nil, Nat.zero_add]
theorem bnil_add_own (k v : List UInt8) (n m v0 v1 : Nat) : Spec Tryd.prog 15 [.val (.pointer none), .own 0 v0 1 0 n, .own 1 v1 1 0 m] [⟨v0, .bytes k⟩, ⟨v1, .bytes v⟩] (pms (.val (.int .i64 2)) [⟨v0, .bytes k⟩, ⟨v1, .bytes v⟩] []) := by
  refine spec_entry tbOk Tryd.func15 rfl Tryd.ntmps15 Tryd.results15 ?_
  (repeat (first | refine gos (k := ?_) | refine fun (_ : _ = false) => ?_ | refine ⟨fun (_ : true = true) => ?_, fun h => absurd h (by decide)⟩ | refine gtr (k := ?_)))
  exact ⟨_, rfl, rfl, trivial⟩
theorem same_own_bs (a b : List UInt8) (n : Nat) (hn : n = a.length) (hb : a.length ≤ 140737488355328) (v z : Nat) : Spec Tryd.prog 22 [.own 0 v 1 0 n, .bs z b] [⟨v, .bytes a⟩] (pms (.val (.bool (decide (a = b)))) [⟨v, .bytes a⟩] []) := by
  subst hn
  have e := whole a
  have h := spec_ro (same_vc 0 0 ((a.drop 0).take a.length) b (by rw [e]; exact hb)) trivial trivial (rows := [⟨v, .bytes a⟩]) (args := [.own 0 v 1 0 a.length, .bs z b]) (asL_cons (as_own (l := a) rfl (by omega)) (asL_cons as_bs asL_nil))
  rw [e] at h
  exact h
theorem nil_prog_own (i : Int) (m : List UInt8) (n : Nat) (hn : n = m.length) (v : Nat) : Spec Tryd.prog 46 [.val (.pointer none), .val (.int .i64 i), .own 0 v 1 0 n] [⟨v, .bytes m⟩] (pms (.val (.int .i64 2)) [⟨v, .bytes m⟩] []) := by
  subst hn
  exact spec_ro (nil_prog i 0 ((m.drop 0).take m.length)) trivial trivial (rows := [⟨v, .bytes m⟩]) (args := [.val (.pointer none), .val (.int .i64 i), .own 0 v 1 0 m.length]) (asL_cons as_val (asL_cons as_val (asL_cons (as_own (l := m) rfl (by omega)) asL_nil)))
theorem does_nil (K n p : Int) (hn : I64 n) (z z' : Nat) (key val : List UInt8) (hk : key.length ≤ 140737488355328) (hv : val.length ≤ 140737488355328) (E : Int) (hE : E = if 0 ≤ K ∧ K ≤ 8 then 2 else 0) : Spec Tryd.prog 28 [.val (.pointer none), .val (.pointer none), .agg [.val (.int .i64 K), .val (.int .i64 n), .val (.int .i64 p), .bs z key, .bs z' val]] []
   (pms (.tup [.agg [.val (.slice none 0 0), .val (.int .i64 0), .val (.bool false), .val (.int .i64 E)], .val (.bool true)]) [] []) := by
  refine spec_entry tbOk Tryd.func28 rfl Tryd.ntmps28 Tryd.results28 ?_
  by_cases k0 : K = 0
  · subst k0
    obtain rfl : E = 2 := hE
    (repeat (first | refine gos (k := ?_) | refine fun (_ : _ = false) => ?_ | refine ⟨fun (_ : true = true) => ?_, fun h => absurd h (by decide)⟩ | refine gtr (k := ?_)))
    refine cmks (bnil_format (n % 4294967296 % 4294967296)) Tryd.call12 0 [] [] [] ?_
    (repeat (first | refine gos (k := ?_) | refine fun (_ : _ = false) => ?_ | refine ⟨fun (_ : true = true) => ?_, fun h => absurd h (by decide)⟩ | refine gtr (k := ?_)))
    exact ⟨_, rfl, rfl, trivial⟩
  by_cases k1 : K = 1
  · subst k1
    obtain rfl : E = 2 := hE
    (repeat (first | refine gos (k := ?_) | refine fun (_ : _ = false) => ?_ | refine ⟨fun (_ : true = true) => ?_, fun h => absurd h (by decide)⟩ | refine gtr (k := ?_)))
    refine cmks (bnil_ready) Tryd.call13 0 [] [] [] ?_
    (repeat (first | refine gos (k := ?_) | refine fun (_ : _ = false) => ?_ | refine ⟨fun (_ : true = true) => ?_, fun h => absurd h (by decide)⟩ | refine gtr (k := ?_)))
    exact ⟨_, rfl, rfl, trivial⟩
  by_cases k2 : K = 2
  · subst k2
    obtain rfl : E = 2 := hE
    (repeat (first | refine gos (k := ?_) | refine fun (_ : _ = false) => ?_ | refine ⟨fun (_ : true = true) => ?_, fun h => absurd h (by decide)⟩ | refine gtr (k := ?_)))
    refine cmks (bnil_head) Tryd.call19 0 [] [] [] ?_
    (repeat (first | refine gos (k := ?_) | refine fun (_ : _ = false) => ?_ | refine ⟨fun (_ : true = true) => ?_, fun h => absurd h (by decide)⟩ | refine gtr (k := ?_)))
    exact ⟨_, rfl, rfl, trivial⟩
  by_cases k3 : K = 3
  · subst k3
    obtain rfl : E = 2 := hE
    (repeat (first | refine gos (k := ?_) | refine fun (_ : _ = false) => ?_ | refine ⟨fun (_ : true = true) => ?_, fun h => absurd h (by decide)⟩ | refine gtr (k := ?_)))
    refine cmks (bnil_scan) Tryd.call30 0 [] [] [] ?_
    (repeat (first | refine gos (k := ?_) | refine fun (_ : _ = false) => ?_ | refine ⟨fun (_ : true = true) => ?_, fun h => absurd h (by decide)⟩ | refine gtr (k := ?_)))
    refine cmks (records_nil) Tryd.call40 0 [] [] [] ?_
    (repeat (first | refine gos (k := ?_) | refine fun (_ : _ = false) => ?_ | refine ⟨fun (_ : true = true) => ?_, fun h => absurd h (by decide)⟩ | refine gtr (k := ?_)))
    exact ⟨_, rfl, rfl, trivial⟩
  by_cases k4 : K = 4
  · subst k4
    obtain rfl : E = 2 := hE
    (repeat (first | refine gos (k := ?_) | refine fun (_ : _ = false) => ?_ | refine ⟨fun (_ : true = true) => ?_, fun h => absurd h (by decide)⟩ | refine gtr (k := ?_)))
    refine cmks (twin8_vc z key hk) Tryd.call16 0 [0, 0, 0, 66] [0, 0, 0, 1] [3] ?_
    (repeat (first | refine gos (k := ?_) | refine fun (_ : _ = false) => ?_ | refine ⟨fun (_ : true = true) => ?_, fun h => absurd h (by decide)⟩ | refine gtr (k := ?_)))
    refine cmks (twin8_vc z' val hv) Tryd.call16 0 [0, 0, 0, 69] [0, 0, 0, 1] [3] ?_
    (repeat (first | refine gos (k := ?_) | refine fun (_ : _ = false) => ?_ | refine ⟨fun (_ : true = true) => ?_, fun h => absurd h (by decide)⟩ | refine gtr (k := ?_)))
    refine cmks (bnil_add_own key val key.length val.length 3 3) Tryd.call15 2 [66, 69] [0, 0] [] ?_
    (repeat (first | refine gos (k := ?_) | refine fun (_ : _ = false) => ?_ | refine ⟨fun (_ : true = true) => ?_, fun h => absurd h (by decide)⟩ | refine gtr (k := ?_)))
    (refine sts (k := ?_))
    refine draw_of (p := 0) tbOk hm [0, 0, 0, 4, 14, 30, 62, 62, 190, 510, 1022, 1023, 4095] [⟨0, true, false, [76, 77, 78, 79, 80, 81, 82, 83, 84, 85, 7]⟩, ⟨1, false, false, []⟩, ⟨2, true, false, [75, 76, 78, 79, 80, 81, 82, 83, 84, 85, 7]⟩, ⟨3, true, false, [75, 76, 79, 80, 81, 82, 83, 84, 85, 7]⟩, ⟨4, true, false, [75, 80, 81, 82, 83, 84, 85, 7]⟩, ⟨5, false, false, []⟩, ⟨6, false, false, []⟩, ⟨7, true, false, [75, 81, 83, 84, 85, 7]⟩, ⟨8, true, false, [75, 81, 84, 85, 7]⟩, ⟨9, true, false, [75, 85, 7]⟩, ⟨10, false, false, []⟩, ⟨11, true, true, [85, 7]⟩, ⟨12, false, false, []⟩] (by kernel_rfl) ?_
    (repeat (first | refine gos (k := ?_) | refine fun (_ : _ = false) => ?_ | refine ⟨fun (_ : true = true) => ?_, fun h => absurd h (by decide)⟩ | refine gtr (k := ?_)))
    refine cmks (same_own_bs key key key.length rfl hk 3 z) Tryd.call22 1 [66] [0] [] ?_
    rw [decide_eq_true (rfl : key = key)]
    (repeat (first | refine gos (k := ?_) | refine fun (_ : _ = false) => ?_ | refine ⟨fun (_ : true = true) => ?_, fun h => absurd h (by decide)⟩ | refine gtr (k := ?_)))
    refine cmks (same_own_bs val val val.length rfl hv 3 z') Tryd.call22 1 [69] [0] [] ?_
    rw [decide_eq_true (rfl : val = val)]
    (repeat (first | refine gos (k := ?_) | refine fun (_ : _ = false) => ?_ | refine ⟨fun (_ : true = true) => ?_, fun h => absurd h (by decide)⟩ | refine gtr (k := ?_)))
    exact ⟨_, rfl, rfl, trivial⟩
  by_cases k5 : K = 5
  · subst k5
    obtain rfl : E = 2 := hE
    (repeat (first | refine gos (k := ?_) | refine fun (_ : _ = false) => ?_ | refine ⟨fun (_ : true = true) => ?_, fun h => absurd h (by decide)⟩ | refine gtr (k := ?_)))
    refine cmks (bnil_kill n) Tryd.call26 0 [] [] [] ?_
    (repeat (first | refine gos (k := ?_) | refine fun (_ : _ = false) => ?_ | refine ⟨fun (_ : true = true) => ?_, fun h => absurd h (by decide)⟩ | refine gtr (k := ?_)))
    exact ⟨_, rfl, rfl, trivial⟩
  by_cases k6 : K = 6
  · subst k6
    obtain rfl : E = 2 := hE
    (repeat (first | refine gos (k := ?_) | refine fun (_ : _ = false) => ?_ | refine ⟨fun (_ : true = true) => ?_, fun h => absurd h (by decide)⟩ | refine gtr (k := ?_)))
    refine cmks (nil_arm n p) Tryd.call24 0 [] [] [] ?_
    (repeat (first | refine gos (k := ?_) | refine fun (_ : _ = false) => ?_ | refine ⟨fun (_ : true = true) => ?_, fun h => absurd h (by decide)⟩ | refine gtr (k := ?_)))
    exact ⟨_, rfl, rfl, trivial⟩
  by_cases k7 : K = 7
  · subst k7
    obtain rfl : E = 2 := hE
    (repeat (first | refine gos (k := ?_) | refine fun (_ : _ = false) => ?_ | refine ⟨fun (_ : true = true) => ?_, fun h => absurd h (by decide)⟩ | refine gtr (k := ?_)))
    refine cmks (nil_on) Tryd.call25 0 [] [] [] ?_
    (repeat (first | refine gos (k := ?_) | refine fun (_ : _ = false) => ?_ | refine ⟨fun (_ : true = true) => ?_, fun h => absurd h (by decide)⟩ | refine gtr (k := ?_)))
    exact ⟨_, rfl, rfl, trivial⟩
  by_cases k8 : K = 8
  · subst k8
    obtain rfl : E = 2 := hE
    (repeat (first | refine gos (k := ?_) | refine fun (_ : _ = false) => ?_ | refine ⟨fun (_ : true = true) => ?_, fun h => absurd h (by decide)⟩ | refine gtr (k := ?_)))
    (refine sts (k := ?_))
    refine draw_of (p := 0) tbOk hm [0, 0, 2, 0, 8, 24, 63, 127, 255] [⟨0, false, false, []⟩, ⟨1, true, false, [109, 111, 112, 113, 114, 115, 116]⟩, ⟨2, true, false, [109, 112, 113, 114, 115, 116]⟩, ⟨3, true, false, [109, 110, 111, 113, 114, 115, 116]⟩, ⟨4, true, false, [109, 110, 111, 114, 115, 116]⟩, ⟨5, true, false, [109, 110, 111, 115, 116]⟩, ⟨6, true, false, [116]⟩, ⟨7, true, false, []⟩, ⟨8, true, true, []⟩] (by kernel_rfl) ?_
    (repeat (first | refine gos (k := ?_) | refine fun (_ : _ = false) => ?_ | refine ⟨fun (_ : true = true) => ?_, fun h => absurd h (by decide)⟩ | refine gtr (k := ?_)))
    refine cmks (twin8_vc z' val hv) Tryd.call16 0 [0, 0, 0, 114] [0, 0, 0, 1] [3] ?_
    (repeat (first | refine gos (k := ?_) | refine fun (_ : _ = false) => ?_ | refine ⟨fun (_ : true = true) => ?_, fun h => absurd h (by decide)⟩ | refine gtr (k := ?_)))
    refine cmks (nil_prog_own n val val.length rfl 3) Tryd.call46 1 [114] [0] [] ?_
    (repeat (first | refine gos (k := ?_) | refine fun (_ : _ = false) => ?_ | refine ⟨fun (_ : true = true) => ?_, fun h => absurd h (by decide)⟩ | refine gtr (k := ?_)))
    exact ⟨_, rfl, rfl, trivial⟩
  have hE0 : E = 0 := by rw [hE, if_neg (by omega)]
  rw [hE0]
  clear hE0 hE
  (repeat (first | refine gos (k := ?_) | refine fun (_ : _ = false) => ?_ | refine ⟨fun (_ : true = true) => ?_, fun h => absurd h (by decide)⟩ | refine gtr (k := ?_)))
  exact ⟨_, rfl, rfl, trivial⟩
end Go.Proofs.YtddocchgikaahaaDoor
