/- Walks of lintellaw09: a store behind calls. Conditions: none. -/
import Derived.Test.YtpbpiehcchannaaGreatDoorJHj
import Derived.Test.YtpbpiehcchannaaGreatDoorJHq
namespace Go.Proofs.YtpbpiehcchannaaGreatDoor
open Go.RowKit
set_option linter.unusedVariables false
set_option linter.unusedSimpArgs false
set_option maxRecDepth 100000
set_option maxHeartbeats 1500000
theorem WeakE.obj (v : Nat) {l l' : List AV} (hl : l'.length = l.length) (h : ∀ (E : Env) (w : World) (vs : List Value), reps E w l vs → reps E w l' vs) : WeakE ⟨v, .obj l⟩ ⟨v, .obj l'⟩ := by
  refine ⟨rfl, fun _ => rfl, fun q => by simp only [Bd.count] at q ⊢; exact q, fun _ E w b h0 => ⟨fun _ => ?_, fun _ _ _ q => by cases q⟩, fun _ q => by cases q⟩
  obtain ⟨cur, T, lo, hi, h1, h2, h3, h4⟩ := h0.blk rfl
  refine ⟨cur, T, lo, hi, h1, h2, by simp only [Bd.count, Bd.sz, hl] at h3 ⊢; exact h3, fun i ys hy => ?_⟩
  simp only [Bd.at] at hy
  split at hy
  · rename_i hi0
    cases hy
    obtain ⟨cs, k1, k2, k3⟩ := h4 i l (by simp [Bd.at, hi0])
    simp only [Bd.sz, hl] at k1 k3 ⊢
    exact ⟨cs, k1, h E w cs k2, k3⟩
  · cases hy
/-- an empty map, as it is made -/
theorem weak_map (v : Nat) (u : Value) : WeakE ⟨v, .obj [.val (.slice none 0 0), .val (.slice none 0 0), .val u]⟩ ⟨v, .obj [.sl 0 1 (fun k : List UInt8 => [AV.bs 0 k]) [] (ksR []), .sl 0 1 (fun k : List UInt8 => [AV.bs 0 k]) [] (vsR []), .val u]⟩ := by
  refine WeakE.obj v rfl fun E w vs h => ?_
  simp only [reps] at h ⊢
  obtain ⟨a, r, h1, h2, b, q, h3, h4, h5⟩ := h
  have nil : ∀ {a : Value}, rep E w (.val (.slice none 0 0)) a → rep E w (.sl 0 1 (fun k : List UInt8 => [AV.bs 0 k]) [] ([] : List (List UInt8))) a := fun {a} h => by
    simp only [rep] at h ⊢
    exact ⟨none, 0, 0, h, rfl, Nat.le_refl _, Nat.zero_le _, fun _ => rfl, fun i x hx => by simp at hx⟩
  exact ⟨a, r, h1, nil h2, b, q, h3, nil h4, h5⟩
theorem open_arg (s : FlS) {W : Int} {n k : Nat} (g : Goes W n k s) (x : Nat) (hx : n = x * k) (hbad : x % 2 = 1 ∨ (x / 2) * k < 64) (v0 v1 : Nat) : Spec Tryz.prog 17 [.ref 0 v0 6 0 0] [⟨v0, .obj [.own 1 v1 1 0 s.l.length, .val (.int .i64 (s.k : Int)), .val (.int .i64 s.ar), .val (.int .i64 s.pt), .val (.bool s.dd), .val (.int .i64 s.wr)]⟩, ⟨v1, .bytes s.l⟩] (pms (.tup [.val (.pointer none), .val (.int .i64 1)]) [⟨v0, .obj [.own 1 v1 1 0 s.l.length, .val (.int .i64 (s.k : Int)), .val (.int .i64 s.ar), .val (.int .i64 s.pt), .val (.bool s.dd), .val (.int .i64 s.wr)]⟩, ⟨v1, .bytes s.l⟩] []) := by
  have hkk := g.kk
  have hgl := g.l
  have hkn := g.k
  have hlen := g.len
  have hsec : (s.l.length : Int) / (s.k : Int) = (x : Int) := by
    rw [hgl, hkn, hx, Int.natCast_mul, Int.mul_ediv_cancel _ (by omega)]
  have hx64 : x ≤ 4194304 := by
    have : x * 1 ≤ x * k := Nat.mul_le_mul_left x hkk.1
    omega
  have hxk : (x / 2) * k ≤ n := by rw [hx]; exact Nat.mul_le_mul_right k (Nat.div_le_self x 2)
  have hss := spec_sectors s (by omega) ⟨by omega, by omega⟩ v0 v1
  rw [hsec] at hss
  have hdiv : ((x : Int)) / 2 = ((x / 2 : Nat) : Int) := by omega
  refine spec_entry tbOk Tryz.func17 rfl Tryz.ntmps17 Tryz.results17 ?_
  refine gg (k := ?_)
  refine cdet (hss) Tryz.call66 [0, 1] ?_
  refine gg (k := ?_)
  rw [hdiv]
  refine cdet (hss) Tryz.call66 [0, 1] ?_
  refine gg (k := ?_)
  by_cases hp : x % 2 = 1
  · rw [show ((x : Int)) % 2 = 1 by omega]
    refine gg (k := ?_)
    intro _
    refine gg (k := ?_)
    exact ⟨_, rfl, rfl, trivial⟩
  · rw [show ((x : Int)) % 2 = 0 by omega]
    have hlt : (x / 2) * k < 64 := hbad.resolve_left hp
    have hcs : ((x / 2 : Nat) : Int) * (s.k : Int) = (((x / 2) * k : Nat) : Int) := by rw [hkn]; simp
    refine gg (k := ?_)
    refine gcl (k := ?_)
    refine cdet (spec_size s v0 v1) Tryz.call67 [0, 1] ?_
    refine gg (k := ?_)
    exact ⟨_, rfl, rfl, trivial⟩
theorem filled_bad (x y : Int) (hx : I64 x) (hy : I64 y) (h : ¬ (1 ≤ x ∧ x ≤ 64 ∧ 16 ≤ y ∧ y ≤ 65536)) (l : List OpB) : Spec Tryz.prog 14 [.val (.int .i64 x), .val (.int .i64 y), .sl 0 5 (opB 0) opB0 l] [] (pms (.tup [.val (.pointer none), .val (.pointer none), .val (.pointer none)]) [] []) := by
  refine spec_entry tbOk Tryz.func14 rfl Tryz.ntmps14 Tryz.results14 ?_
  refine gg (k := ?_)
  refine cmks (newBad_vc x y hx hy h) Tryz.call26 0 [] [] [] ?_
  refine gg (k := ?_)
  exact ⟨_, rfl, rfl, trivial⟩
theorem filled_arg (x y : Nat) (h1 : 1 ≤ x ∧ x ≤ 64) (h2 : 16 ≤ y ∧ y ≤ 65536) (hbad : x % 2 = 1 ∨ (x / 2) * y < 64) (l : List OpB) : Spec Tryz.prog 14 [.val (.int .i64 (x : Int)), .val (.int .i64 (y : Int)), .sl 0 5 (opB 0) opB0 l] [] (pms (.tup [.val (.pointer none), .val (.pointer none), .val (.pointer none)]) [] []) := by
  have hN := spec_new x y h1 h2
  have g0 : Goes 0 (x * y) y (FlS.new x y) := Goes.new x y h1 h2
  have hop := open_arg (FlS.new x y) g0 x rfl hbad 2 3
  generalize FlS.new x y = S at hN hop
  refine spec_entry tbOk Tryz.func14 rfl Tryz.ntmps14 Tryz.results14 ?_
  refine gg (k := ?_)
  refine cmks (hN) Tryz.call26 0 [0, 0, 0, 0, 0, 0, 0, 0, 0, 0, 0, 0, 0, 0, 0, 0, 0, 0, 0, 0, 0, 0, 0, 0, 21, 0, 0, 20] [0, 0, 0, 0, 0, 0, 0, 0, 0, 0, 0, 0, 0, 0, 0, 0, 0, 0, 0, 0, 0, 0, 0, 0, 1, 0, 0, 1] [27, 24] ?_
  refine gg (k := ?_)
  refine cmks (hop) Tryz.call17 2 [20, 21] [0, 0] [] ?_
  refine gg (k := ?_)
  exact ⟨_, rfl, rfl, trivial⟩
theorem filled_vc (c k : Nat) (hc : 1 ≤ c ∧ 2 * c ≤ 64) (hk : 16 ≤ k ∧ k ≤ 65536) (hbig : 64 ≤ c * k) (l : List OpB) (ho : ∀ o ∈ l, OpBOk o) (hl : l.length ≤ 200) : ∃ (s : FlS) (R : List RK), SM s c k l.length R ∧ Spec Tryz.prog 14 [.val (.int .i64 ((2 * c : Nat) : Int)), .val (.int .i64 (k : Int)), .sl 0 5 (opB 0) opB0 l] []
   (pms (.tup [.ref 20 2 6 0 0, .ref 27 2 3 0 0, .ref 34 1 3 0 0]) [] [(34, ⟨1, .obj [.sl 0 1 (fun k : List UInt8 => [AV.bs 0 k]) [] (ksR R), .sl 0 1 (fun k : List UInt8 => [AV.bs 0 k]) [] (vsR R), .val (.int .i64 ((c * k - 16 : Nat) : Int))]⟩), (27, ⟨2, .obj [.ref 20 2 6 0 0, .ref 28 3 3 0 0, .ref 29 3 3 0 0]⟩), (28, ⟨3, .obj [.ref 20 2 6 0 0, .val (.int .i64 ((0 : Nat) : Int)), .val (.int .i64 (c : Int))]⟩), (29, ⟨3, .obj [.ref 20 2 6 0 0, .val (.int .i64 (c : Int)), .val (.int .i64 (c : Int))]⟩), (20, ⟨2, .obj [.own 21 3 1 0 s.l.length, .val (.int .i64 (s.k : Int)), .val (.int .i64 s.ar), .val (.int .i64 s.pt), .val (.bool s.dd), .val (.int .i64 s.wr)]⟩), (21, ⟨3, .bytes s.l⟩)]) := by
  obtain ⟨s1, o1, sm1⟩ := SM.new (c := c) (k := k) (by omega) hk hbig
  have la : Lies (2 * c * k) k 0 c := lies0 hc.1 (by omega) hbig
  have lb : Lies (2 * c * k) k c c := liesC hc.1 (by omega) hbig
  have hfill := fill_SM sm1 (by omega) la lb l (by omega)
  refine ⟨_, _, hfill l.length (Nat.le_refl _), ?_⟩
  have g0 : Goes 0 (2 * c * k) k (FlS.new (2 * c) k) := Goes.new (2 * c) k (by omega) hk
  have hN := spec_new (2 * c) k (by omega) hk
  have hop := spec_mono (open_vc (FlS.new (2 * c) k) c g0 (by decide) la lb rfl rfl 2 3) fun X H q => q.1 (by rw [o1])
  rw [o1] at hop
  generalize FlS.new (2 * c) k = S at hN hop
  have hrm := sroom_vc s1 c sm1.go la 2 3 3 2 3
  have hroom : (c : Int) * (s1.k : Int) - 16 = ((c * k - 16 : Nat) : Int) := by
    rw [sm1.go.k]
    have : (c : Int) * (k : Int) = ((c * k : Nat) : Int) := by simp
    omega
  rw [hroom] at hrm
  refine spec_entry tbOk Tryz.func14 rfl Tryz.ntmps14 Tryz.results14 ?_
  refine gg (k := ?_)
  refine cmks (hN) Tryz.call26 0 [0, 0, 0, 0, 0, 0, 0, 0, 0, 0, 0, 0, 0, 0, 0, 0, 0, 0, 0, 0, 0, 0, 0, 0, 21, 0, 0, 20] [0, 0, 0, 0, 0, 0, 0, 0, 0, 0, 0, 0, 0, 0, 0, 0, 0, 0, 0, 0, 0, 0, 0, 0, 1, 0, 0, 1] [27, 24] ?_
  refine gg (k := ?_)
  refine cmks (hop) Tryz.call17 2 [20, 21, 0, 0, 0, 0, 0, 0, 0, 0, 0, 0, 0, 0, 0, 0, 0, 0, 0, 0, 0, 0, 0, 0, 0, 0, 0, 0, 0, 0, 0, 0, 0, 0, 0, 0, 0, 0, 0, 27, 0, 0, 0, 0, 0, 0, 0, 0, 0, 0, 0, 0, 0, 0, 0, 0, 0, 0, 0, 0, 0, 0, 0, 0, 0, 0, 0, 0, 0, 0, 0, 0, 0, 0, 0, 0, 0, 0, 0, 0, 28, 29] [0, 0, 0, 0, 0, 0, 0, 0, 0, 0, 0, 0, 0, 0, 0, 0, 0, 0, 0, 0, 0, 0, 0, 0, 0, 0, 0, 0, 0, 0, 0, 0, 0, 0, 0, 0, 0, 0, 0, 1, 0, 0, 0, 0, 0, 0, 0, 0, 0, 0, 0, 0, 0, 0, 0, 0, 0, 0, 0, 0, 0, 0, 0, 0, 0, 0, 0, 0, 0, 0, 0, 0, 0, 0, 0, 0, 0, 0, 0, 0, 1, 1] [39, 80, 81] ?_
  refine gg (k := ?_)
  refine cmks (hrm) Tryz.call27 5 [27, 28, 29, 20, 21] [0, 0, 0, 0, 0] [] ?_
  refine gg (k := ?_)
  (refine sts (k := ?_))
  conv => whnf
  refine loop_le (leS_row 34 ⟨1, .obj [.sl 0 1 (fun k : List UInt8 => [AV.bs 0 k]) [] (ksR []), .sl 0 1 (fun k : List UInt8 => [AV.bs 0 k]) [] (vsR []), .val (.int .i64 ((c * k - 16 : Nat) : Int))]⟩ rfl (weak_map 1 _)) ?_
  refine loop_at (fun i : Nat => i ≤ l.length) (fun i => l.length - i) 0 [13, 14, 15, 35, 36, 37, 38, 39, 40, 41, 42, 43, 44, 45, 46, 47, 48, 49, 50, 51, 52, 53, 54, 55, 56, 57, 58, 59, 60, 61, 62, 63, 64, 65, 66, 67, 68, 69, 70, 71, 72, 73, 74, 75, 76, 77, 78, 79, 80, 81, 82, 83, 84, 85, 86, 87, 88, 89, 90, 91, 92, 93, 94, 95, 96, 97] (fun i => [(13, .val (.int .i64 (i : Int)))]) (fun i => [(34, ⟨1, .obj [.sl 0 1 (fun k : List UInt8 => [AV.bs 0 k]) [] (ksR (fillP c ((c * k - 16 : Nat) : Int) s1 l i).2), .sl 0 1 (fun k : List UInt8 => [AV.bs 0 k]) [] (vsR (fillP c ((c * k - 16 : Nat) : Int) s1 l i).2), .val (.int .i64 ((c * k - 16 : Nat) : Int))]⟩), (20, ⟨2, .obj [.own 21 3 1 0 (fillP c ((c * k - 16 : Nat) : Int) s1 l i).1.l.length, .val (.int .i64 ((fillP c ((c * k - 16 : Nat) : Int) s1 l i).1.k : Int)), .val (.int .i64 (fillP c ((c * k - 16 : Nat) : Int) s1 l i).1.ar), .val (.int .i64 (fillP c ((c * k - 16 : Nat) : Int) s1 l i).1.pt), .val (.bool (fillP c ((c * k - 16 : Nat) : Int) s1 l i).1.dd), .val (.int .i64 (fillP c ((c * k - 16 : Nat) : Int) s1 l i).1.wr)]⟩), (21, ⟨3, .bytes (fillP c ((c * k - 16 : Nat) : Int) s1 l i).1.l⟩)]) 0 (Nat.zero_le _) ?_ ?_ ?_
  · exact no_implicit_lambda% ten
  · exact no_implicit_lambda% hen
  · rintro i v i1
    have hSM := hfill i i1
    refine glp (k := ?_)
    refine gg (k := ?_)
    refine ⟨fun h => ?_, fun h => ?_⟩
    · have hlt : i < l.length := by have := of_decide_eq_true h; omega
      have hoi : OpBOk (l.getD i opB0) := by rw [List.getD_eq_getElem?_getD, List.getElem?_eq_getElem hlt]; exact ho _ (List.getElem_mem hlt)
      have hsu := fillP_succ (c := c) (room := ((c * k - 16 : Nat) : Int)) (s0 := s1) hlt
      generalize hP : fillP c ((c * k - 16 : Nat) : Int) s1 l i = P at hSM hsu
      generalize hP2 : fillP c ((c * k - 16 : Nat) : Int) s1 l (i + 1) = P2 at hsu
      obtain ⟨s, R⟩ := P
      simp only at hSM
      have hset := hSM.set (by omega) (by omega) la lb (l.getD i opB0).key (l.getD i opB0).val
      have hdel := hSM.del (l.getD i opB0).key
      have hso := hSM.sort
      have hlen := hSM.len
      have hok := hSM.ok
      have hgo := hSM.go
      have hlive : s.dd = false := by obtain ⟨G, M, h1, _⟩ := hSM.ex; exact h1.live
      have hkey := hoi.key
      have hval := hoi.val
      refine gg (k := ?_)
      simp only [Int.toNat_natCast]
      clear hoi
      by_cases k2 : (l.getD i opB0).K = 2
      · have k3 : ¬ (l.getD i opB0).K = 3 := by omega
        rw [decide_eq_true k2]
        refine gg (k := ?_)
        (refine sts (k := ?_))
        refine draw_of (p := 0) tbOk hm [0, 0, 0, 6, 14, 30, 62, 0, 0, 384, 896, 1920, 4094, 8191, 16383] [⟨0, false, false, []⟩, ⟨1, false, false, []⟩, ⟨2, false, false, []⟩, ⟨3, true, false, [47, 51, 52, 53, 54, 55, 56, 57, 58, 59, 60, 14]⟩, ⟨4, true, false, [47, 52, 53, 54, 55, 56, 57, 58, 59, 60, 14]⟩, ⟨5, true, false, [47, 53, 54, 55, 56, 57, 58, 59, 60, 14]⟩, ⟨7, false, false, []⟩, ⟨8, false, false, []⟩, ⟨9, true, false, [47, 48, 49, 50, 51, 52, 53, 57, 58, 59, 60, 14]⟩, ⟨10, true, false, [47, 48, 49, 50, 51, 52, 53, 58, 59, 60, 14]⟩, ⟨11, true, false, [47, 48, 49, 50, 51, 52, 53, 59, 60, 14]⟩, ⟨6, true, false, [47, 54, 55, 56, 57, 58, 59, 60, 14]⟩, ⟨12, true, false, [47, 60, 14]⟩, ⟨13, true, true, [14]⟩, ⟨14, false, false, []⟩] (by kernel_rfl) ?_
        refine gg (k := ?_)
        simp only [Int.toNat_natCast]
        generalize hoo : l.getD i opB0 = o at hsu hset hdel hkey hval k2 k3
        rw [show stepP c ((c * k - 16 : Nat) : Int) (s, R) o = ((s.set c o.key o.val).2, setW R ((c * k - 16 : Nat) : Int) o.key o.val) from if_pos k2] at hsu
        subst hsu
        refine cmks (twin9_vc 0 o.key hkey) Tryz.call23 0 [] [] [] ?_
        refine gg (k := ?_)
        refine cmks (twin9_vc 0 o.val hval) Tryz.call23 0 [] [] [] ?_
        refine gg (k := ?_)
        refine cmks (set_vc s c hgo (by omega) la lb hlive 0 0 o.key o.val hkey hval 2 3 3 2 3) Tryz.call22 5 [27, 28, 29, 20, 21] [0, 0, 0, 0, 0] [] ?_
        rw [hset.1]
        by_cases he : setE R ((c * k - 16 : Nat) : Int) o.key o.val = 0
        · refine gg (k := ?_)
          rw [decide_eq_true he]
          refine gg (k := ?_)
          (refine sts (k := ?_))
          refine draw_of (p := 0) tbOk hm [0, 0, 0, 6, 14, 30, 0, 0, 192, 448, 960, 2047] [⟨0, false, false, []⟩, ⟨1, false, false, []⟩, ⟨2, false, false, []⟩, ⟨3, true, false, [63, 67, 68, 69, 70, 71, 72, 73, 74]⟩, ⟨4, true, false, [63, 68, 69, 70, 71, 72, 73, 74]⟩, ⟨5, true, false, [63, 69, 70, 71, 72, 73, 74]⟩, ⟨6, false, false, []⟩, ⟨7, false, false, []⟩, ⟨8, true, false, [63, 64, 65, 66, 67, 68, 72, 73, 74]⟩, ⟨9, true, false, [63, 64, 65, 66, 67, 68, 73, 74]⟩, ⟨10, true, false, [63, 64, 65, 66, 67, 68, 74]⟩, ⟨11, true, true, []⟩] (by kernel_rfl) ?_
          refine gg (k := ?_)
          simp only [Int.toNat_natCast, hoo]
          refine cmks (mset_vc R hso hok (by omega) o.key o.val hkey hval ((c * k - 16 : Nat) : Int) 1) Tryz.call21 1 [34] [0] [] ?_
          (
                                        refine gg (k := ?_)
                                        simp only [Int.toNat_natCast, hoo]
                                        rw [decide_eq_false k3]
                                        (
                                        refine gg (k := ?_)
                                        refine back_at (i + 1) hlt (by show l.length - (i + 1) < l.length - i; omega) ?_ ?_
                                        · exact no_implicit_lambda% ten
                                        · dsimp only [lpS, deadH, putH, setL, Nat.reduceAdd, Nat.zero_add]
                                          rw [hP2]
                                          exact no_implicit_lambda% hen))
        · have hR2 : setW R ((c * k - 16 : Nat) : Int) o.key o.val = R := if_neg he
          rw [hR2] at hP2
          rw [(hset.2.2 he)] at hP2 ⊢
          refine gg (k := ?_)
          rw [decide_eq_false he]
          (
                                        refine gg (k := ?_)
                                        simp only [Int.toNat_natCast, hoo]
                                        rw [decide_eq_false k3]
                                        (
                                        refine gg (k := ?_)
                                        refine back_at (i + 1) hlt (by show l.length - (i + 1) < l.length - i; omega) ?_ ?_
                                        · exact no_implicit_lambda% ten
                                        · dsimp only [lpS, deadH, putH, setL, Nat.reduceAdd, Nat.zero_add]
                                          rw [hP2]
                                          exact no_implicit_lambda% hen))
      · by_cases k3 : (l.getD i opB0).K = 3
        · rw [decide_eq_false k2]
          refine gg (k := ?_)
          simp only [Int.toNat_natCast]
          rw [decide_eq_true k3]
          refine gg (k := ?_)
          simp only [Int.toNat_natCast]
          generalize hoo : l.getD i opB0 = o at hsu hset hdel hkey hval k2 k3
          rw [show stepP c ((c * k - 16 : Nat) : Int) (s, R) o = ((s.del c o.key).2, delR R o.key) from (if_neg k2).trans (if_pos k3)] at hsu
          subst hsu
          refine cmks (twin9_vc 0 o.key hkey) Tryz.call23 0 [] [] [] ?_
          refine gg (k := ?_)
          refine cmks (dels_vc s c hgo (by omega) la lb 0 o.key 2 3 3 2 3) Tryz.call25 5 [27, 28, 29, 20, 21] [0, 0, 0, 0, 0] [] ?_
          rw [hdel.1]
          by_cases he : delE R o.key = 0
          · refine gg (k := ?_)
            rw [decide_eq_true he]
            refine gg (k := ?_)
            simp only [Int.toNat_natCast, hoo]
            refine cmks (mdel_vc R hso (by omega) 0 o.key ((c * k - 16 : Nat) : Int) 1) Tryz.call24 1 [34] [0] [] ?_
            (
                                        refine gg (k := ?_)
                                        refine back_at (i + 1) hlt (by show l.length - (i + 1) < l.length - i; omega) ?_ ?_
                                        · exact no_implicit_lambda% ten
                                        · dsimp only [lpS, deadH, putH, setL, Nat.reduceAdd, Nat.zero_add]
                                          rw [hP2]
                                          exact no_implicit_lambda% hen)
          · obtain ⟨hS2, hR2⟩ := hdel.2.2 he
            rw [hS2, hR2] at hP2
            rw [hS2]
            refine gg (k := ?_)
            rw [decide_eq_false he]
            (
                                        refine gg (k := ?_)
                                        refine back_at (i + 1) hlt (by show l.length - (i + 1) < l.length - i; omega) ?_ ?_
                                        · exact no_implicit_lambda% ten
                                        · dsimp only [lpS, deadH, putH, setL, Nat.reduceAdd, Nat.zero_add]
                                          rw [hP2]
                                          exact no_implicit_lambda% hen)
        · rw [show stepP c ((c * k - 16 : Nat) : Int) (s, R) (l.getD i opB0) = (s, R) from (if_neg k2).trans (if_neg k3)] at hsu
          subst hsu
          rw [decide_eq_false k2]
          refine gg (k := ?_)
          simp only [Int.toNat_natCast]
          rw [decide_eq_false k3]
          (
                                        refine gg (k := ?_)
                                        refine back_at (i + 1) hlt (by show l.length - (i + 1) < l.length - i; omega) ?_ ?_
                                        · exact no_implicit_lambda% ten
                                        · dsimp only [lpS, deadH, putH, setL, Nat.reduceAdd, Nat.zero_add]
                                          rw [hP2]
                                          exact no_implicit_lambda% hen)
    · obtain rfl : i = l.length := by have := of_decide_eq_false h; omega
      refine gg (k := ?_)
      exact ⟨_, rfl, rfl, rfl, rfl, rfl, rfl, rfl, rfl, trivial⟩
end Go.Proofs.YtpbpiehcchannaaGreatDoor
