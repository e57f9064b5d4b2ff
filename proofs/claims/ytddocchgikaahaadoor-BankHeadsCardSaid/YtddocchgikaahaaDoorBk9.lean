/- Walks of bank: each, scan. Conditions: none. -/
import Derived.Test.YtddocchgikaahaaDoorBk8
import Derived.Test.YtddocchgikaahaaDoorAe
namespace Go.Proofs.YtddocchgikaahaaDoor
open Go.RowKit
set_option linter.unusedVariables false
set_option linter.unusedSimpArgs false
set_option maxRecDepth 100000
set_option maxHeartbeats 1500000
theorem each_vc (v n : Nat) (x : List UInt8) : Spec Tryd.prog 54 [.own 0 v 1 0 n] [⟨v, .bytes x⟩] (pms (.clo 65 [.ref 2 1 1 0 0]) [⟨v, .bytes x⟩] [(2, ⟨1, .obj [.own 0 v 1 0 n]⟩)]) := by
  refine spec_entry tbOk Tryd.func54 rfl Tryd.ntmps54 Tryd.results54 ?_
  (repeat (first | refine gos (k := ?_) | refine fun (_ : _ = false) => ?_ | refine ⟨fun (_ : true = true) => ?_, fun h => absurd h (by decide)⟩ | refine gtr (k := ?_)))
  exact ⟨_, rfl, rfl, rfl, trivial⟩
/-- a record of a bank's bytes: where it lies, and what it is -/
structure Rc where
  key : List UInt8
  val : List UInt8
  lv : Bool
  at_ : Nat
theorem recN_pos (x : List UInt8) : 12 ≤ recN x := by unfold recN; omega
/-- the records of bytes from a place on, their end, and whether all is whole -/
def scanG (x : List UInt8) (a : Nat) : List Rc × Nat × Bool :=
  if h : a < x.length ∧ x.getD a 0 ≠ 255 then
    if recIs (x.drop a) then (⟨recKey (x.drop a), recVal (x.drop a), recLv (x.drop a), a⟩ :: (scanG x (a + recN (x.drop a))).1, (scanG x (a + recN (x.drop a))).2)
    else ([], a, false)
  else ([], a, true)
termination_by x.length - a
decreasing_by all_goals (have := recN_pos (x.drop a); omega)
theorem scanG_some {x : List UInt8} {a : Nat} (h : a < x.length ∧ x.getD a 0 ≠ 255) (hr : recIs (x.drop a)) : scanG x a = (⟨recKey (x.drop a), recVal (x.drop a), recLv (x.drop a), a⟩ :: (scanG x (a + recN (x.drop a))).1, (scanG x (a + recN (x.drop a))).2) := by
  rw [scanG, dif_pos h, if_pos hr]
theorem scanG_bad {x : List UInt8} {a : Nat} (h : a < x.length ∧ x.getD a 0 ≠ 255) (hr : ¬ recIs (x.drop a)) : scanG x a = ([], a, false) := by
  rw [scanG, dif_pos h, if_neg hr]
theorem scanG_end {x : List UInt8} {a : Nat} (h : ¬ (a < x.length ∧ x.getD a 0 ≠ 255)) : scanG x a = ([], a, true) := by
  rw [scanG, dif_neg h]
/-- a record, as it stands in memory: its bytes lie in the pool of the row r -/
structure Rr where
  i : Nat
  kn : Nat
  vn : Nat
  lv : Bool
def rrA (r v : Nat) (y : Rr) : List AV := [.pl r v y.i 0 y.kn, .pl r v (y.i + 1) 0 y.vn, .val (.bool y.lv)]
def rrOf : Nat → List Rc → List Rr
  | _, [] => []
  | i, c :: l => ⟨i, c.key.length, c.val.length, c.lv⟩ :: rrOf (i + 2) l
def poolOf (l : List Rc) : List (List UInt8) := l.flatMap fun c => [c.key, c.val]
theorem rrOf_len : ∀ (l : List Rc) (i : Nat), (rrOf i l).length = l.length
  | [], _ => rfl
  | _ :: l, i => by simp [rrOf, rrOf_len l]
theorem poolOf_len : ∀ (l : List Rc), (poolOf l).length = 2 * l.length
  | [] => rfl
  | c :: l => by
    have := poolOf_len l
    simp only [poolOf, List.flatMap_cons, List.length_append, List.length_cons, List.length_nil] at this ⊢
    omega
theorem rrOf_snoc (c : Rc) : ∀ (l : List Rc) (i : Nat), rrOf i (l ++ [c]) = rrOf i l ++ [⟨i + 2 * l.length, c.key.length, c.val.length, c.lv⟩]
  | [], i => by simp [rrOf]
  | d :: l, i => by
    simp only [List.cons_append, rrOf, rrOf_snoc c l, List.length_cons, List.cons.injEq, true_and]
    rw [show i + 2 + 2 * l.length = i + 2 * (l.length + 1) by omega]
theorem poolOf_snoc (c : Rc) (l : List Rc) : poolOf (l ++ [c]) = poolOf l ++ [c.key] ++ [c.val] := by simp [poolOf]
theorem drop_take (x : List UInt8) (o : Nat) : (x.drop o).take (x.length - o) = x.drop o := by rw [List.take_of_length_le]; rw [List.length_drop]; exact Nat.le_refl _
theorem parse_own_some (x : List UInt8) (hx : x.length ≤ 140737488355328) (o n v : Nat) (ho : o ≤ x.length) (hn : n = x.length - o) (y : List UInt8) (hy : y = x.drop o) (h : recIs y) : Spec Tryd.prog 66 [.own 0 v 1 o n] [⟨v, .bytes x⟩]
    (pms (.tup [.agg [.own 55 3 1 0 (recKey y).length, .own 61 3 1 0 (recVal y).length, .val (.bool (recLv y))], .val (.int .i64 (recN y))]) [⟨v, .bytes x⟩] [(55, ⟨3, .bytes (recKey y)⟩), (61, ⟨3, .bytes (recVal y)⟩)]) := by
  subst hn hy
  have := own1 (l := x) o (x.length - o) (by omega) (parse_some 0 ((x.drop o).take (x.length - o)) (by rw [drop_take, List.length_drop]; omega) (by rw [drop_take]; exact h)) ⟨⟨trivial, trivial, trivial, trivial⟩, trivial, trivial⟩ ⟨trivial, trivial, trivial⟩ (fun _ => asL_nil) v
  rw [drop_take] at this
  exact this
theorem parse_own_none (x : List UInt8) (hx : x.length ≤ 140737488355328) (o n v : Nat) (ho : o ≤ x.length) (hn : n = x.length - o) (h : ¬ recIs (x.drop o)) : Spec Tryd.prog 66 [.own 0 v 1 o n] [⟨v, .bytes x⟩]
    (pms (.tup [zeroRec, .val (.int .i64 0)]) [⟨v, .bytes x⟩] []) := by
  subst hn
  have := own1 (l := x) o (x.length - o) (by omega) (parse_none 0 ((x.drop o).take (x.length - o)) (by rw [drop_take, List.length_drop]; omega) (by rw [drop_take]; exact h)) ⟨⟨trivial, trivial, trivial, trivial⟩, trivial, trivial⟩ trivial (fun _ => asL_nil) v
  exact this
structure SY where
  at_ : Nat
  rs : List Rc
theorem scan_live {W : Int} {n k : Nat} (s : FlS) (a c : Nat) (g : Goes W n k s) (p : Lies n k a c) (hd : s.dd = false) (x : List UInt8) (hx : x = (s.l.drop (a * k)).take (c * k)) (vb v0 v1 : Nat) : Spec Tryd.prog 38 [.ref 0 vb 3 0 0] [⟨vb, .obj [.ref 1 v0 6 0 0, .val (.int .i64 (a : Int)), .val (.int .i64 (c : Int))]⟩, ⟨v0, .obj [.own 2 v1 1 0 s.l.length, .val (.int .i64 (s.k : Int)), .val (.int .i64 s.ar), .val (.int .i64 s.pt), .val (.bool s.dd), .val (.int .i64 s.wr)]⟩, ⟨v1, .bytes s.l⟩]
   (pms (.tup [.own 94 ((scanG x 16).1.length + 1) 3 0 (scanG x 16).1.length, .own 98 ((scanG x 16).1.length + 1) 1 0 (scanG x 16).1.length, .val (.int .i64 ((scanG x 16).2.1 : Int)), .val (.bool (scanG x 16).2.2), .val (.int .i64 0)]) [⟨vb, .obj [.ref 1 v0 6 0 0, .val (.int .i64 (a : Int)), .val (.int .i64 (c : Int))]⟩, ⟨v0, .obj [.own 2 v1 1 0 s.l.length, .val (.int .i64 (s.k : Int)), .val (.int .i64 s.ar), .val (.int .i64 s.pt), .val (.bool s.dd), .val (.int .i64 s.wr)]⟩, ⟨v1, .bytes s.l⟩]
     [(94, ⟨(scanG x 16).1.length + 1, .row 3 (rrA 104 1) ⟨0, 0, 0, false⟩ (rrOf 0 (scanG x 16).1)⟩), (98, ⟨(scanG x 16).1.length + 1, .row 1 (intF .i64) 0 ((scanG x 16).1.map fun c => (c.at_ : Int))⟩), (104, ⟨1, .pool (poolOf (scanG x 16).1)⟩)]) := by
  have h := g.bok p
  have hi := h.int
  have hl := h.len
  have hb := p.big
  have hfit := p.fit
  have hnl := g.len
  refine spec_entryR tbOk Tryd.func38 rfl Tryd.ntmps38 Tryd.results38 60 104 ?_
  (repeat (first | refine gos (k := ?_) | refine fun (_ : _ = false) => ?_ | refine ⟨fun (_ : true = true) => ?_, fun h => absurd h (by decide)⟩ | refine gtr (k := ?_)))
  refine cdet (bsize_vc s a c h vb v0 v1) Tryd.call37 [0, 1, 2] ?_
  (repeat (first | refine gos (k := ?_) | refine fun (_ : _ = false) => ?_ | refine ⟨fun (_ : true = true) => ?_, fun h => absurd h (by decide)⟩ | refine gtr (k := ?_)))
  refine callK_pool 104 ?_
  refine cmks (bread_vc s a c h ((c : Int) * s.k) (by unfold I64; omega) vb v0 v1) Tryd.call41 3 [0, 1, 2, 0, 0, 0, 0, 0, 0, 0, 0, 0, 0, 0, 0, 0, 0, 0, 0, 0, 0, 0, 0, 0, 74] [0, 0, 0, 0, 0, 0, 0, 0, 0, 0, 0, 0, 0, 0, 0, 0, 0, 0, 0, 0, 0, 0, 0, 0, 1] [24] ?_
  refine ⟨0, rfl, ?_⟩
  have hr : s.read ((a : Int) * s.k) ((c : Int) * s.k) = (0, x) := by
    rcases read_cases g p (c * k) (Nat.le_refl _) with ⟨q, _⟩ | ⟨_, q, _⟩
    · rw [hd] at q; cases q
    · rw [hx, ← q, g.k]; push_cast; rfl
  have hxl : x.length = c * k := by
    rcases read_cases g p (c * k) (Nat.le_refl _) with ⟨q, _⟩ | ⟨_, _, q⟩
    · rw [hd] at q; cases q
    · rw [hx]; exact q
  rw [hr]
  (repeat (first | refine gos (k := ?_) | refine fun (_ : _ = false) => ?_ | refine ⟨fun (_ : true = true) => ?_, fun h => absurd h (by decide)⟩ | refine gtr (k := ?_)))
  refine cmks (each_vc 5 x.length x) Tryd.call54 1 [74, 0, 81] [0, 0, 1] [2] ?_
  (repeat (first | refine gos (k := ?_) | refine fun (_ : _ = false) => ?_ | refine ⟨fun (_ : true = true) => ?_, fun h => absurd h (by decide)⟩ | refine gtr (k := ?_)))
  (refine sts (k := ?_))
  conv => whnf
  refine range_of tbOk (p' := 3) (m := 0) 103 0 rfl trivial Tryd.func65 rfl Tryd.ntmps65 Tryd.results65 Tryd.call65 (by kernel_rfl) rfl ?_
  intro i hps0 hasn0 hbody0
  have hI : Go.RowKit.Hid _ := And.intro hps0 (And.intro hasn0 hbody0)
  clear hps0 hasn0 hbody0
  (refine sts (k := ?_))
  (repeat (first | refine gos (k := ?_) | refine fun (_ : _ = false) => ?_ | refine ⟨fun (_ : true = true) => ?_, fun h => absurd h (by decide)⟩ | refine gtr (k := ?_)))
  (refine sts (k := ?_))
  conv => whnf
  refine loop_le (leS_trans (leS_nilB (b := 62) (r := 94) (v' := 1) (sz := 3) (bd' := .row 3 (rrA 104 1) ⟨0, 0, 0, false⟩ []) rfl rfl rfl (by decide) rfl) (leS_nilB (b := 63) (r := 98) (v' := 1) (sz := 1) (bd' := .row 1 (intF .i64) 0 []) rfl rfl rfl (by decide) rfl)) ?_
  dsimp only [setL]
  refine loop_at (fun y : SY => 16 ≤ y.at_ ∧ y.at_ ≤ x.length ∧ 12 * y.rs.length ≤ y.at_ ∧ scanG x 16 = (y.rs ++ (scanG x y.at_).1, (scanG x y.at_).2)) (fun y => x.length - y.at_) 3 [3, 4, 5, 6, 7, 8, 9, 10, 11, 12, 13, 14, 15, 16, 17, 18, 19, 20, 21, 22, 23, 24, 25, 26, 27, 28, 29, 30, 31, 32, 33, 34, 35, 36, 37, 66, 90, 94, 102, 103]
    (fun y => [(3, .val (.int .i64 (y.at_ : Int)))])
    (fun y => [(62, ⟨1, .obj [.own 94 (y.rs.length + 1) 3 0 y.rs.length]⟩), (63, ⟨1, .obj [.own 98 (y.rs.length + 1) 1 0 y.rs.length]⟩), (94, ⟨y.rs.length + 1, .row 3 (rrA 104 1) ⟨0, 0, 0, false⟩ (rrOf 0 y.rs)⟩), (98, ⟨y.rs.length + 1, .row 1 (intF .i64) 0 (y.rs.map fun c => (c.at_ : Int))⟩), (104, ⟨1, .pool (poolOf y.rs)⟩)])
    ⟨16, []⟩ ⟨Nat.le_refl _, by show 16 ≤ x.length; omega, by show 12 * 0 ≤ 16; omega, by simp⟩ ?_ ?_ ?_
  · ((try dsimp only [lpS, anyT, putT, setL]); (repeat (refine And.intro (by first | exact trivial | exact rfl) ?_)); (first | exact trivial | skip))
  · ((try dsimp only [lpS, deadH, putH, setL, Nat.reduceAdd, Nat.zero_add]); (repeat (refine And.intro (by first | exact rfl | exact trivial) ?_)); (first | exact trivial | skip))
  · rintro ⟨at_, rs⟩ v ⟨h1, h2, h3, h4⟩
    simp only at h1 h2 h3 h4
    (dsimp only [lpS, anyT, putT, setL, deadH, putH, Nat.reduceAdd, Nat.zero_add])
    (repeat (first | refine gos (k := ?_) | refine fun (_ : _ = false) => ?_ | refine ⟨fun (_ : true = true) => ?_, fun h => absurd h (by decide)⟩ | refine gtr (k := ?_)))
    have hat : 0 + ((at_ : Int)).toNat = at_ := by omega
    refine ⟨fun h => ?_, fun h => ?_⟩
    · have hlt : at_ < x.length ∧ x.getD at_ 0 ≠ 255 := by
        rw [Bool.and_eq_true, Bool.not_eq_true', decide_eq_false_iff_not, hat] at h
        refine ⟨by have := of_decide_eq_true h.1; omega, fun q => h.2 ?_⟩
        rw [q]; rfl
      have hN := recN_pos (x.drop at_)
      (repeat (first | refine gos (k := ?_) | refine fun (_ : _ = false) => ?_ | refine ⟨fun (_ : true = true) => ?_, fun h => absurd h (by decide)⟩ | refine gtr (k := ?_)))
      by_cases hrec : recIs (x.drop at_)
      · have hrn : recN (x.drop at_) ≤ x.length - at_ := by have := hrec.2.2.2.2.2.1; rw [List.length_drop] at this; exact this
        refine callK_move 106 104 ?_
        refine callK_move 105 104 ?_
        refine cmks (parse_own_some x (by omega) (0 + ((at_ : Int)).toNat) (((x.length - ((at_ : Int)).toNat))) 5 (by omega) (by omega) (x.drop at_) (by rw [hat]) hrec) Tryd.call66 (hz := fun r hr => by (obtain rfl : r = 0 := by omega); rfl) (had := ⟨⟨_, rfl, Nat.lt_succ_self _⟩, ⟨_, rfl, Nat.lt_succ_self _⟩, trivial⟩) 1 [74, 0, 0, 0, 0, 0, 0, 0, 0, 0, 0, 0, 0, 0, 0, 0, 0, 0, 0, 0, 0, 0, 0, 0, 0, 0, 0, 0, 0, 0, 0, 0, 0, 0, 0, 0, 0, 0, 0, 0, 0, 0, 0, 0, 0, 0, 0, 0, 0, 0, 0, 0, 0, 0, 0, 105, 0, 0, 0, 0, 0, 106] [0, 0, 0, 0, 0, 0, 0, 0, 0, 0, 0, 0, 0, 0, 0, 0, 0, 0, 0, 0, 0, 0, 0, 0, 0, 0, 0, 0, 0, 0, 0, 0, 0, 0, 0, 0, 0, 0, 0, 0, 0, 0, 0, 0, 0, 0, 0, 0, 0, 0, 0, 0, 0, 0, 0, (v 105 + 1), 0, 0, 0, 0, 0, (v 106 + 1)] [55, 61] ?_
        refine ⟨_, _, _, _, rfl, rfl, _, _, _, _, rfl, rfl, ?_⟩
        have b1 : Nat.beq 106 105 = false := rfl
        have b2 : Nat.beq 105 105 = true := rfl
        have b3 : Nat.beq 106 106 = true := rfl
        have b4 : Nat.beq 1 1 = true := rfl
        dsimp only [renA, renAs, rl2, rl.getN']
        simp only [mvA, mvAs, Nat.beq_refl, b1, b2, b3, b4, Bool.and_true, Bool.and_self, Bool.false_and, cond_true, cond_false]
        have hp1 : (poolOf rs ++ [recKey (x.drop at_)]).length = 2 * rs.length + 1 := by rw [List.length_append, poolOf_len]; rfl
        rw [hp1, poolOf_len rs]
        (repeat (first | refine gos (k := ?_) | refine fun (_ : _ = false) => ?_ | refine ⟨fun (_ : true = true) => ?_, fun h => absurd h (by decide)⟩ | refine gtr (k := ?_)))
        conv => whnf
        obtain ⟨hps, hasn, hbody⟩ : _ ∧ _ ∧ _ := hI
        refine yield_of (args := [.val (.int .i64 (at_ : Int)), .agg [.pl 104 1 (2 * rs.length) 0 (recKey (x.drop at_)).length, .pl 104 1 (2 * rs.length + 1) 0 (recVal (x.drop at_)).length, .val (.bool (recLv (x.drop at_)))]]) tbOk (p := 60) (i := i) rfl (by rw [hasn]; rfl) (by rw [hbody]; rfl) (by rw [hps]; rfl) ?_
        have hpl : i.ps.toList = [22, 23] := by rw [hps]
        rw [hasn, hbody, hpl]
        clear hpl; clear hps hasn hbody
        dsimp only [putPs, setL]
        have hkl : (recKey (x.drop at_)).length = recK (x.drop at_) := by
          have := hrec.2.2.2.2.2.1
          unfold recN at this
          unfold recKey; rw [List.length_drop, List.length_take]; omega
        have hk1 := hrec.2.2.1
        (repeat (first | refine gos (k := ?_) | refine fun (_ : _ = false) => ?_ | refine ⟨fun (_ : true = true) => ?_, fun h => absurd h (by decide)⟩ | refine gtr (k := ?_)))
        (refine sts (k := ?_))
        refine draw_of (p := 60) tbOk hm [0, 0, 2, 7, 0, 0, 32, 127, 255, 511] [⟨0, true, false, [32, 33, 34, 35, 36, 37, 38]⟩, ⟨1, true, false, [31, 33, 34, 35, 36, 37, 38]⟩, ⟨2, true, false, [31, 34, 35, 36, 37, 38]⟩, ⟨3, true, false, [35, 36, 37, 38]⟩, ⟨4, true, false, [31, 32, 33, 34, 36, 37, 38]⟩, ⟨5, false, false, []⟩, ⟨6, true, false, [31, 32, 33, 34, 35, 38]⟩, ⟨7, true, false, []⟩, ⟨8, true, true, []⟩, ⟨9, true, true, []⟩] (by kernel_rfl) ?_
        (repeat (first | refine gos (k := ?_) | refine fun (_ : _ = false) => ?_ | refine ⟨fun (_ : true = true) => ?_, fun h => absurd h (by decide)⟩ | refine gtr (k := ?_)))
        conv => whnf
        obtain ⟨R, hR⟩ : ∃ R : List Rc, R = rs ++ [⟨recKey (x.drop at_), recVal (x.drop at_), recLv (x.drop at_), at_⟩] := ⟨_, rfl⟩
        have hRl : R.length = rs.length + 1 := by rw [hR]; simp
        have hRp : poolOf R = poolOf rs ++ [recKey (x.drop at_)] ++ [recVal (x.drop at_)] := by rw [hR, poolOf_snoc]
        have hRr : rrOf 0 R = rrOf 0 rs ++ [⟨2 * rs.length, (recKey (x.drop at_)).length, (recVal (x.drop at_)).length, recLv (x.drop at_)⟩] := by rw [hR, rrOf_snoc, Nat.zero_add]
        have hRa : (R.map fun c => (c.at_ : Int)) = (rs.map fun c => (c.at_ : Int)) ++ [(at_ : Int)] := by rw [hR]; simp
        refine ⟨Rr, rrA 104 1, ⟨0, 0, 0, false⟩, rrOf 0 R, ?_⟩
        conv => whnf
        refine And.intro ?_ ?_
        · refine ⟨rfl, ⟨rfl, rfl, Nat.le_refl _, fun q hq => (by (have hq0 : q = 0 := by simpa using hq); subst hq0; exact ⟨rfl, rfl, rfl, trivial⟩)⟩, rfl, rfl, rfl, (rrOf_len rs 0).symm, .inr rfl, ?_, ?_, by decide⟩
          · rw [hRr, List.map_append]; rfl
          · rw [rrOf_len, hRl]
            show (rs.length + 1) * 56 ≤ _
            omega
        (repeat (first | refine gos (k := ?_) | refine fun (_ : _ = false) => ?_ | refine ⟨fun (_ : true = true) => ?_, fun h => absurd h (by decide)⟩ | refine gtr (k := ?_)))
        conv => whnf
        refine ⟨Int, intF .i64, 0, R.map fun c => (c.at_ : Int), ?_⟩
        conv => whnf
        refine And.intro ?_ ?_
        · refine ⟨rfl, ⟨rfl, rfl, Nat.le_refl _, fun q _ => ⟨rfl, trivial⟩⟩, rfl, rfl, rfl, by simp, .inr rfl, ?_, ?_, by decide⟩
          · rw [hRa, List.map_append]; rfl
          · rw [List.length_map, hRl]
            show (rs.length + 1) * 8 ≤ _
            omega
        (repeat (first | refine gos (k := ?_) | refine fun (_ : _ = false) => ?_ | refine ⟨fun (_ : true = true) => ?_, fun h => absurd h (by decide)⟩ | refine gtr (k := ?_)))
        have hN2 : x.length - (at_ + recN (x.drop at_)) < x.length - at_ := by omega
        dsimp only [opsW, thenK, blkK]
        refine back_at (σ := SY) ⟨at_ + recN (x.drop at_), R⟩ ⟨by show 16 ≤ at_ + _; omega, by show at_ + _ ≤ _; omega, by show 12 * R.length ≤ at_ + _; rw [hRl]; omega, ?_⟩ hN2 ?_ ?_
        · show scanG x 16 = (R ++ (scanG x (at_ + recN (x.drop at_))).1, (scanG x (at_ + recN (x.drop at_))).2)
          rw [h4, scanG_some hlt hrec, hR]
          simp
        · ((try dsimp only [lpS, anyT, putT, setL]); (repeat (refine And.intro (by first | exact trivial | exact rfl) ?_)); (first | exact trivial | skip))
        · dsimp only [lpS, deadH, putH, setL, Nat.reduceAdd, Nat.zero_add]
          rw [rrOf_len, List.length_map, hRl, hRp]
          ((try dsimp only [lpS, deadH, putH, setL, Nat.reduceAdd, Nat.zero_add]); (repeat (refine And.intro (by first | exact rfl | exact trivial) ?_)); (first | exact trivial | skip))
      · refine cmks (parse_own_none x (by omega) (0 + ((at_ : Int)).toNat) (((x.length - ((at_ : Int)).toNat))) 5 (by omega) (by omega) (by rw [hat]; exact hrec)) Tryd.call66 1 [74] [0] [] ?_
        (repeat (first | refine gos (k := ?_) | refine fun (_ : _ = false) => ?_ | refine ⟨fun (_ : true = true) => ?_, fun h => absurd h (by decide)⟩ | refine gtr (k := ?_)))
        conv => whnf
        obtain ⟨hps, hasn, hbody⟩ : _ ∧ _ ∧ _ := hI
        refine yield_of (args := [.val (.int .i64 (at_ : Int)), zeroRec]) tbOk (p := 60) (i := i) rfl (by rw [hasn]; rfl) (by rw [hbody]; rfl) (by rw [hps]; rfl) ?_
        have hpl : i.ps.toList = [22, 23] := by rw [hps]
        rw [hasn, hbody, hpl]
        clear hpl; clear hps hasn hbody
        unfold zeroRec
        dsimp only [putPs, setL]
        (repeat (first | refine gos (k := ?_) | refine fun (_ : _ = false) => ?_ | refine ⟨fun (_ : true = true) => ?_, fun h => absurd h (by decide)⟩ | refine gtr (k := ?_)))
        (refine sts (k := ?_))
        refine draw_of (p := 60) tbOk hm [0, 0, 2, 1, 15] [⟨0, false, false, []⟩, ⟨1, false, false, [9]⟩, ⟨2, false, false, [9]⟩, ⟨3, true, true, [9, 29, 30]⟩, ⟨4, true, true, []⟩] (by kernel_rfl) ?_
        (repeat (first | refine gos (k := ?_) | refine fun (_ : _ = false) => ?_ | refine ⟨fun (_ : true = true) => ?_, fun h => absurd h (by decide)⟩ | refine gtr (k := ?_)))
        refine ⟨_, rfl, ?_⟩
        (repeat (first | refine gos (k := ?_) | refine fun (_ : _ = false) => ?_ | refine ⟨fun (_ : true = true) => ?_, fun h => absurd h (by decide)⟩ | refine gtr (k := ?_)))
        (refine sts (k := ?_))
        refine draw_of (p := 60) tbOk hm [0, 0, 0, 0, 1, 19, 55, 127, 255] [⟨0, true, false, [40, 41, 42, 6]⟩, ⟨1, false, false, [3]⟩, ⟨2, false, false, [4]⟩, ⟨3, false, false, [5]⟩, ⟨4, true, true, [5, 4, 3, 40, 41, 42, 6]⟩, ⟨5, true, true, [5, 4, 41, 42, 6]⟩, ⟨6, true, true, [5, 42, 6]⟩, ⟨7, true, true, [6]⟩, ⟨8, false, false, []⟩] (by kernel_rfl) ?_
        (repeat (first | refine gos (k := ?_) | refine fun (_ : _ = false) => ?_ | refine ⟨fun (_ : true = true) => ?_, fun h => absurd h (by decide)⟩ | refine gtr (k := ?_)))
        (refine sts (k := ?_))
        have hG : scanG x 16 = (rs, at_, false) := by rw [h4, scanG_bad hlt hrec]; simp
        refine ⟨_, leS_refl _, by simp [noYs, noY], by simp [noHs, noB, noYs, noY, rrA, intF, takeL, dropL], ?_⟩
        (repeat (first | refine gos (k := ?_) | refine fun (_ : _ = false) => ?_ | refine ⟨fun (_ : true = true) => ?_, fun h => absurd h (by decide)⟩ | refine gtr (k := ?_)))
        rw [hG]
        exact ⟨_, rfl, rfl, rfl, rfl, rfl, trivial⟩
    · have hend : ¬ (at_ < x.length ∧ x.getD at_ 0 ≠ 255) := by
        rw [hat] at h
        rintro ⟨q1, q2⟩
        rw [decide_eq_true (by omega : (at_ : Int) < (x.length : Int)), Bool.true_and, Bool.not_eq_false', decide_eq_true_eq] at h
        exact q2 (UInt8.toNat_inj.1 (by exact_mod_cast h))
      (repeat (first | refine gos (k := ?_) | refine fun (_ : _ = false) => ?_ | refine ⟨fun (_ : true = true) => ?_, fun h => absurd h (by decide)⟩ | refine gtr (k := ?_)))
      conv => whnf
      obtain ⟨hps, hasn, hbody⟩ : _ ∧ _ ∧ _ := hI
      refine yield_of (args := [.val (.int .i64 (at_ : Int)), .agg [.val (.slice none 0 0), .val (.slice none 0 0), .val (.bool true)]]) tbOk (p := 60) (i := i) rfl (by rw [hasn]; rfl) (by rw [hbody]; rfl) (by rw [hps]; rfl) ?_
      have hpl : i.ps.toList = [22, 23] := by rw [hps]
      rw [hasn, hbody, hpl]
      clear hpl; clear hps hasn hbody
      dsimp only [putPs, setL]
      (repeat (first | refine gos (k := ?_) | refine fun (_ : _ = false) => ?_ | refine ⟨fun (_ : true = true) => ?_, fun h => absurd h (by decide)⟩ | refine gtr (k := ?_)))
      (refine sts (k := ?_))
      refine draw_of (p := 60) tbOk hm [0, 0, 2, 1, 15] [⟨0, false, false, []⟩, ⟨1, false, false, [9]⟩, ⟨2, false, false, [9]⟩, ⟨3, true, true, [9, 29, 30]⟩, ⟨4, true, true, []⟩] (by kernel_rfl) ?_
      (repeat (first | refine gos (k := ?_) | refine fun (_ : _ = false) => ?_ | refine ⟨fun (_ : true = true) => ?_, fun h => absurd h (by decide)⟩ | refine gtr (k := ?_)))
      refine ⟨_, rfl, ?_⟩
      (repeat (first | refine gos (k := ?_) | refine fun (_ : _ = false) => ?_ | refine ⟨fun (_ : true = true) => ?_, fun h => absurd h (by decide)⟩ | refine gtr (k := ?_)))
      (refine sts (k := ?_))
      refine draw_of (p := 60) tbOk hm [0, 0, 0, 0, 1, 19, 55, 127, 255] [⟨0, true, false, [40, 41, 42, 6]⟩, ⟨1, false, false, [3]⟩, ⟨2, false, false, [4]⟩, ⟨3, false, false, [5]⟩, ⟨4, true, true, [5, 4, 3, 40, 41, 42, 6]⟩, ⟨5, true, true, [5, 4, 41, 42, 6]⟩, ⟨6, true, true, [5, 42, 6]⟩, ⟨7, true, true, [6]⟩, ⟨8, false, false, []⟩] (by kernel_rfl) ?_
      (repeat (first | refine gos (k := ?_) | refine fun (_ : _ = false) => ?_ | refine ⟨fun (_ : true = true) => ?_, fun h => absurd h (by decide)⟩ | refine gtr (k := ?_)))
      (refine sts (k := ?_))
      have hG : scanG x 16 = (rs, at_, true) := by rw [h4, scanG_end hend]; simp
      refine ⟨_, leS_refl _, by simp [noYs, noY], by simp [noHs, noB, noYs, noY, rrA, intF, takeL, dropL], ?_⟩
      (repeat (first | refine gos (k := ?_) | refine fun (_ : _ = false) => ?_ | refine ⟨fun (_ : true = true) => ?_, fun h => absurd h (by decide)⟩ | refine gtr (k := ?_)))
      rw [hG]
      exact ⟨_, rfl, rfl, rfl, rfl, rfl, trivial⟩
theorem scan_dead {W : Int} {n k : Nat} (s : FlS) (a c : Nat) (g : Goes W n k s) (p : Lies n k a c) (hd : s.dd = true) (vb v0 v1 : Nat) : Spec Tryd.prog 38 [.ref 0 vb 3 0 0] [⟨vb, .obj [.ref 1 v0 6 0 0, .val (.int .i64 (a : Int)), .val (.int .i64 (c : Int))]⟩, ⟨v0, .obj [.own 2 v1 1 0 s.l.length, .val (.int .i64 (s.k : Int)), .val (.int .i64 s.ar), .val (.int .i64 s.pt), .val (.bool s.dd), .val (.int .i64 s.wr)]⟩, ⟨v1, .bytes s.l⟩]
   (pms (.tup [.val (.slice none 0 0), .val (.slice none 0 0), .val (.int .i64 0), .val (.bool false), .val (.int .i64 6)]) [⟨vb, .obj [.ref 1 v0 6 0 0, .val (.int .i64 (a : Int)), .val (.int .i64 (c : Int))]⟩, ⟨v0, .obj [.own 2 v1 1 0 s.l.length, .val (.int .i64 (s.k : Int)), .val (.int .i64 s.ar), .val (.int .i64 s.pt), .val (.bool s.dd), .val (.int .i64 s.wr)]⟩, ⟨v1, .bytes s.l⟩] []) := by
  have h := g.bok p
  have hi := h.int
  have hl := h.len
  refine spec_entryR tbOk Tryd.func38 rfl Tryd.ntmps38 Tryd.results38 60 104 ?_
  (repeat (first | refine gos (k := ?_) | refine fun (_ : _ = false) => ?_ | refine ⟨fun (_ : true = true) => ?_, fun h => absurd h (by decide)⟩ | refine gtr (k := ?_)))
  refine cdet (bsize_vc s a c h vb v0 v1) Tryd.call37 [0, 1, 2] ?_
  (repeat (first | refine gos (k := ?_) | refine fun (_ : _ = false) => ?_ | refine ⟨fun (_ : true = true) => ?_, fun h => absurd h (by decide)⟩ | refine gtr (k := ?_)))
  refine cmks (bread_vc s a c h ((c : Int) * s.k) (by unfold I64; omega) vb v0 v1) Tryd.call41 3 [0, 1, 2, 0, 0, 0, 0, 0, 0, 0, 0, 0, 0, 0, 0, 0, 0, 0, 0, 0, 0, 0, 0, 0, 74] [0, 0, 0, 0, 0, 0, 0, 0, 0, 0, 0, 0, 0, 0, 0, 0, 0, 0, 0, 0, 0, 0, 0, 0, 1] [24] ?_
  have hr : s.read ((a : Int) * s.k) ((c : Int) * s.k) = (6, []) := by unfold FlS.read; rw [hd]; rfl
  rw [hr]
  (repeat (first | refine gos (k := ?_) | refine fun (_ : _ = false) => ?_ | refine ⟨fun (_ : true = true) => ?_, fun h => absurd h (by decide)⟩ | refine gtr (k := ?_)))
  (refine sts (k := ?_))
  refine ⟨_, leS_refl _, by simp [noYs, noY], by simp [noHs, noB, noYs, noY, takeL, dropL], ?_⟩
  (repeat (first | refine gos (k := ?_) | refine fun (_ : _ = false) => ?_ | refine ⟨fun (_ : true = true) => ?_, fun h => absurd h (by decide)⟩ | refine gtr (k := ?_)))
  exact ⟨_, rfl, rfl, trivial⟩
end Go.Proofs.YtddocchgikaahaaDoor
