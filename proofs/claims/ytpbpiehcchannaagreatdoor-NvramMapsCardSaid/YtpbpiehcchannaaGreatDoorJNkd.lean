/- Walks of lintellaw09: NvramMaps. Conditions: none. -/
import Derived.Test.YtpbpiehcchannaaGreatDoorJNkb
import Derived.Test.YtpbpiehcchannaaGreatDoorJHm
namespace Go.Proofs.YtpbpiehcchannaaGreatDoor
open Go.RowKit
set_option linter.unusedVariables false
set_option linter.unusedSimpArgs false
set_option maxRecDepth 100000
set_option maxHeartbeats 9000000
theorem atV_out {R : List RK} {key : List UInt8} (h : ∀ r ∈ R, r.key ≠ key) : atV (ksR R) key = -1 := by
  unfold atV
  rw [if_neg]
  rw [ksR_len, atI_in]
  rintro ⟨r, hr, e⟩
  exact h r hr e
theorem atV_in {R : List RK} {key : List UInt8} (h : ∃ r ∈ R, r.key = key) : ∃ (p : Nat) (hp : p < R.length), atV (ksR R) key = (p : Int) ∧ R[p].key = key := by
  have h1 := (atI_in R key).2 h
  refine ⟨atI (ksR R) key, h1, by unfold atV; rw [if_pos (by rw [ksR_len]; exact h1)], ?_⟩
  clear h
  induction R with
  | nil => simp at h1
  | cons r R ih =>
    rw [atI_cons] at h1
    by_cases hk : r.key = key
    · simp only [atI_cons, if_pos hk, List.getElem_cons_zero]; exact hk
    · have h2 : atI (ksR R) key < R.length := by rw [if_neg hk, List.length_cons] at h1; omega
      have := ih h2
      simp only [atI_cons, if_neg hk, Nat.add_comm 1, List.getElem_cons_succ]
      exact this
theorem law_maps (a b : Int) (ha : I64 a) (hb : I64 b) (l : List OpB) (ho : ∀ o ∈ l, OpBOk o) : Spec Tryz.prog 4 [.val (.int .i64 a), .val (.int .i64 b), .sl 0 5 (opB 0) opB0 l] [] (pms (.val (.bool true)) [] []) := by
  refine spec_entry tbOk Tryz.func4 rfl Tryz.ntmps4 Tryz.results4 ?_
  refine gg (k := ?_)
  refine cmks (vast9_vc 0 a b l) Tryz.call12 (hon := ⟨trivial, trivial, fun _ => ⟨trivial, trivial, trivial, trivial, trivial, trivial⟩, trivial⟩) 0 [] [] [] ?_
  by_cases hv : vast9B a b l = true
  · rw [hv]
    refine gg (k := ?_)
    (
                                        refine cmks (works9_vc) Tryz.call13 0 [] [] [] ?_
                                        refine gg (k := ?_)
                                        exact ⟨_, rfl, rfl, trivial⟩)
  have hv0 : vast9B a b l = false := by simpa using hv
  rw [hv0]
  have hn : l.length ≤ 80 ∧ a ≤ 8 ∧ b ≤ 1024 := by
    unfold vast9B at hv0
    rw [Bool.or_eq_false_iff, decide_eq_false_iff_not] at hv0
    omega
  clear hv hv0
  refine gg (k := ?_)
  by_cases hvd : 1 ≤ a ∧ a ≤ 64 ∧ 16 ≤ b ∧ b ≤ 65536
  case neg =>
    refine cmks (newBad_vc a b ha hb hvd) Tryz.call26 0 [] [] [] ?_
    refine gg (k := ?_)
    (
                                        refine cmks (works9_vc) Tryz.call13 0 [] [] [] ?_
                                        refine gg (k := ?_)
                                        exact ⟨_, rfl, rfl, trivial⟩)
  obtain ⟨x, rfl⟩ : ∃ x : Nat, a = (x : Int) := ⟨a.toNat, by omega⟩
  obtain ⟨y, rfl⟩ : ∃ y : Nat, b = (y : Int) := ⟨b.toNat, by omega⟩
  by_cases hbad : x % 2 = 1 ∨ (x / 2) * y < 64
  · have hN := spec_new x y (by omega) (by omega)
    have g0 : Goes 0 (x * y) y (FlS.new x y) := Goes.new x y (by omega) (by omega)
    have hop := open_arg (FlS.new x y) g0 x rfl hbad 2 3
    generalize FlS.new x y = S at hN hop
    refine cmks (hN) Tryz.call26 0 [0, 0, 0, 0, 0, 0, 0, 0, 0, 0, 0, 0, 0, 0, 0, 0, 0, 0, 0, 0, 0, 0, 0, 0, 28, 0, 0, 27] [0, 0, 0, 0, 0, 0, 0, 0, 0, 0, 0, 0, 0, 0, 0, 0, 0, 0, 0, 0, 0, 0, 0, 0, 1, 0, 0, 1] [27, 24] ?_
    refine gg (k := ?_)
    refine cmks (hop) Tryz.call17 2 [27, 28] [0, 0] [] ?_
    refine gg (k := ?_)
    (
                                        refine cmks (works9_vc) Tryz.call13 0 [] [] [] ?_
                                        refine gg (k := ?_)
                                        exact ⟨_, rfl, rfl, trivial⟩)
  obtain ⟨c, rfl⟩ : ∃ c, x = 2 * c := ⟨x / 2, by omega⟩
  have hbig : 64 ≤ c * y := by
    have : 2 * c / 2 = c := by omega
    rw [this] at hbad; omega
  have hc1 : 1 ≤ c := by
    rcases Nat.eq_zero_or_pos c with q | q
    · rw [q] at hbig; omega
    · exact q
  have la : Lies (2 * c * y) y 0 c := lies0 hc1 (by omega) hbig
  have lb : Lies (2 * c * y) y c c := liesC hc1 (by omega) hbig
  obtain ⟨s1, o1, sm1⟩ := SM.new (c := c) (k := y) (by omega) (by omega) hbig
  have hfill := fill_SM sm1 (by omega) la lb l (by omega)
  have g0 : Goes 0 (2 * c * y) y (FlS.new (2 * c) y) := Goes.new (2 * c) y (by omega) (by omega)
  have hN := spec_new (2 * c) y (by omega) (by omega)
  have hop := spec_mono (open_vc (FlS.new (2 * c) y) c g0 (by decide) la lb rfl rfl 2 3) fun X H q => q.1 (by rw [o1])
  rw [o1] at hop
  generalize FlS.new (2 * c) y = S at hN hop
  have hrm := sroom_vc s1 c sm1.go la 2 3 3 2 3
  have hroom : (c : Int) * (s1.k : Int) - 16 = ((c * y - 16 : Nat) : Int) := by
    rw [sm1.go.k]
    have : (c : Int) * (y : Int) = ((c * y : Nat) : Int) := by simp
    omega
  rw [hroom] at hrm
  refine cmks (hN) Tryz.call26 0 [0, 0, 0, 0, 0, 0, 0, 0, 0, 0, 0, 0, 0, 0, 0, 0, 0, 0, 0, 0, 0, 0, 0, 0, 28, 0, 0, 27] [0, 0, 0, 0, 0, 0, 0, 0, 0, 0, 0, 0, 0, 0, 0, 0, 0, 0, 0, 0, 0, 0, 0, 0, 1, 0, 0, 1] [27, 24] ?_
  refine gg (k := ?_)
  refine cmks (hop) Tryz.call17 2 [27, 28, 0, 0, 0, 0, 0, 0, 0, 0, 0, 0, 0, 0, 0, 0, 0, 0, 0, 0, 0, 0, 0, 0, 0, 0, 0, 0, 0, 0, 0, 0, 0, 0, 0, 0, 0, 0, 0, 35, 0, 0, 0, 0, 0, 0, 0, 0, 0, 0, 0, 0, 0, 0, 0, 0, 0, 0, 0, 0, 0, 0, 0, 0, 0, 0, 0, 0, 0, 0, 0, 0, 0, 0, 0, 0, 0, 0, 0, 0, 36, 37] [0, 0, 0, 0, 0, 0, 0, 0, 0, 0, 0, 0, 0, 0, 0, 0, 0, 0, 0, 0, 0, 0, 0, 0, 0, 0, 0, 0, 0, 0, 0, 0, 0, 0, 0, 0, 0, 0, 0, 1, 0, 0, 0, 0, 0, 0, 0, 0, 0, 0, 0, 0, 0, 0, 0, 0, 0, 0, 0, 0, 0, 0, 0, 0, 0, 0, 0, 0, 0, 0, 0, 0, 0, 0, 0, 0, 0, 0, 0, 0, 1, 1] [39, 80, 81] ?_
  refine gg (k := ?_)
  refine cmks (hrm) Tryz.call27 5 [35, 36, 37, 27, 28] [0, 0, 0, 0, 0] [] ?_
  refine gg (k := ?_)
  (refine sts (k := ?_))
  conv => whnf
  refine loop_le (leS_row 51 ⟨1, .obj [.sl 0 1 (fun k : List UInt8 => [AV.bs 0 k]) [] (ksR []), .sl 0 1 (fun k : List UInt8 => [AV.bs 0 k]) [] (vsR []), .val (.int .i64 ((c * y - 16 : Nat) : Int))]⟩ rfl (weak_map 1 _)) ?_
  refine loop_at (fun z : Nat × Nat × Nat × Nat => z.1 ≤ l.length) (fun z => l.length - z.1) 0 [6, 9, 11, 12, 13, 14, 15, 16, 17, 52, 53, 54, 55, 56, 57, 58, 59, 60, 61, 62, 63, 64, 65, 66, 67, 68, 69, 70, 71, 72, 73, 74, 75, 76, 77, 78, 79, 80, 81, 82, 83, 84, 85, 86, 87, 88, 89, 90, 91, 92, 93, 94, 95, 96, 97, 98, 99, 100, 101, 102, 103, 104, 105, 106, 107, 108, 109, 110, 111, 112, 113, 114, 115, 116, 117, 118, 119, 120, 121, 122, 123, 124, 125, 126, 127, 128, 129, 130, 131, 132, 133, 134] (fun z => [(6, .val (.bool false)), (9, .ref 35 z.2.1 3 0 0), (11, .val (.int .i64 (z.1 : Int)))]) (fun z => [(51, ⟨1, .obj [.sl 0 1 (fun k : List UInt8 => [AV.bs 0 k]) [] (ksR (fillP c ((c * y - 16 : Nat) : Int) s1 l z.1).2), .sl 0 1 (fun k : List UInt8 => [AV.bs 0 k]) [] (vsR (fillP c ((c * y - 16 : Nat) : Int) s1 l z.1).2), .val (.int .i64 ((c * y - 16 : Nat) : Int))]⟩), (35, ⟨z.2.1, .obj [.ref 27 2 6 0 0, .ref 36 z.2.2.1 3 0 0, .ref 37 z.2.2.2 3 0 0]⟩), (36, ⟨z.2.2.1, .obj [.ref 27 2 6 0 0, .val (.int .i64 ((0 : Nat) : Int)), .val (.int .i64 (c : Int))]⟩), (37, ⟨z.2.2.2, .obj [.ref 27 2 6 0 0, .val (.int .i64 (c : Int)), .val (.int .i64 (c : Int))]⟩), (27, ⟨2, .obj [.own 28 3 1 0 (fillP c ((c * y - 16 : Nat) : Int) s1 l z.1).1.l.length, .val (.int .i64 ((fillP c ((c * y - 16 : Nat) : Int) s1 l z.1).1.k : Int)), .val (.int .i64 (fillP c ((c * y - 16 : Nat) : Int) s1 l z.1).1.ar), .val (.int .i64 (fillP c ((c * y - 16 : Nat) : Int) s1 l z.1).1.pt), .val (.bool (fillP c ((c * y - 16 : Nat) : Int) s1 l z.1).1.dd), .val (.int .i64 (fillP c ((c * y - 16 : Nat) : Int) s1 l z.1).1.wr)]⟩), (28, ⟨3, .bytes (fillP c ((c * y - 16 : Nat) : Int) s1 l z.1).1.l⟩)]) (0, 2, 3, 3) (Nat.zero_le _) ?_ ?_ ?_
  · exact no_implicit_lambda% ten
  · exact no_implicit_lambda% hen
  · rintro ⟨i, vs, va, vb⟩ v i1
    simp only at i1
    have hSM := hfill i i1
    refine glp (k := ?_)
    refine gg (k := ?_)
    refine ⟨fun h => ?_, fun h => ?_⟩
    · have hlt : i < l.length := by have := of_decide_eq_true h; omega
      have hoi : OpBOk (l.getD i opB0) := by rw [List.getD_eq_getElem?_getD, List.getElem?_eq_getElem hlt]; exact ho _ (List.getElem_mem hlt)
      have hsu := fillP_succ (c := c) (room := ((c * y - 16 : Nat) : Int)) (s0 := s1) hlt
      have hSM2 := hfill (i + 1) hlt
      generalize hP : fillP c ((c * y - 16 : Nat) : Int) s1 l i = P at hSM hsu
      generalize hP2 : fillP c ((c * y - 16 : Nat) : Int) s1 l (i + 1) = P2 at hsu hSM2
      obtain ⟨s, R⟩ := P
      simp only at hSM
      obtain ⟨G, M, hNM, hRM, hG⟩ := hSM.ex
      have hgo := hSM.go
      have hlen := hSM.len
      have hok := hSM.ok
      have hso := hSM.sort
      have hti : l.getD i opB0 = l.getD (i : Int).toNat opB0 := by rw [Int.toNat_natCast]
      rw [hti] at hoi hsu
      clear hti
      refine gg (k := ?_)
      generalize l.getD (i : Int).toNat opB0 = o at hoi hsu ⊢
      have hkey := hoi.key
      have hval := hoi.val
      have hset := hSM.set (by omega) (by omega) la lb o.key o.val
      have hdel := hSM.del o.key
      obtain ⟨G2, M2, hNM2, hRM2, hG2⟩ := hSM2.ex
      have hgo2 := hSM2.go
      have hlen2 := hSM2.len
      have hok2 := hSM2.ok
      have hso2 := hSM2.sort
      have hld := holds_vc P2.1 c hNM2.lk hRM2 hgo2 la lb hok2 (by omega) P2.2 hok2 (by omega) ((c * y - 16 : Nat) : Int)
      rw [eqR_self] at hld
      by_cases k0 : o.K = 0
      · have k1 : ¬ o.K = 1 := by omega
        (
                                        rw [show stepP c ((c * y - 16 : Nat) : Int) (s, R) o = (s, R) from (if_neg (by omega)).trans (if_neg (by omega))] at hsu
                                        subst hsu)
        rw [decide_eq_true k0]
        refine gg (k := ?_)
        refine cmks (does9_open s c hgo (by omega) la lb rfl hNM.live hNM.opn o hoi k0 vs va vb 2 3) Tryz.call28 5 [35, 36, 37, 27, 28] [0, 0, 0, 0, 0] [] ?_
        refine gg (k := ?_)
        (
                                        refine gcl (k := ?_)
                                        refine cmks (hld (1 + (vs + 1)) (2 + (va + 1)) (2 + (vb + 1)) 2 3 1) Tryz.call18 6 [35, 36, 37, 27, 28, 51] [0, 0, 0, 0, 0, 0] [] ?_
                                        refine gg (k := ?_))
        (
                                        rw [decide_eq_false k1]
                                        refine gg (k := ?_)
                                        refine back_at (i + 1, (1 + (vs + 1)), (2 + (va + 1)), (2 + (vb + 1))) hlt (by show l.length - (i + 1) < l.length - i; omega) ?_ ?_
                                        · exact no_implicit_lambda% ten
                                        · dsimp only [lpS, deadH, putH, setL, Nat.reduceAdd, Nat.zero_add]
                                          rw [hP2]
                                          exact no_implicit_lambda% hen)
      rw [decide_eq_false k0]
      refine gg (k := ?_)
      by_cases k1 : o.K = 1
      · (
                                        rw [show stepP c ((c * y - 16 : Nat) : Int) (s, R) o = (s, R) from (if_neg (by omega)).trans (if_neg (by omega))] at hsu
                                        subst hsu)
        rw [decide_eq_true k1]
        refine gg (k := ?_)
        by_cases hx : ∃ r ∈ R, r.key = o.key
        · obtain ⟨p, hp, hat, hpk⟩ := atV_in hx
          have hpm : R[p] ∈ R := List.getElem_mem hp
          have hpo := hok _ hpm
          refine cmks (does9_get s c hNM.lk hgo la lb o hoi k1 R[p] (hRM.perm.mem_iff.1 hpm) hpk hpo.2 vs va vb 2 3) Tryz.call28 5 [35, 36, 37, 27, 28] [0, 0, 0, 0, 0] [] ?_
          refine gg (k := ?_)
          (
                                        refine gcl (k := ?_)
                                        refine cmks (hld vs va vb 2 3 1) Tryz.call18 6 [35, 36, 37, 27, 28, 51] [0, 0, 0, 0, 0, 0] [] ?_
                                        refine gg (k := ?_))
          rw [decide_eq_true k1]
          refine gg (k := ?_)
          refine cmks (mat_vc R (by omega) 0 o.key ((c * y - 16 : Nat) : Int) 1) Tryz.call29 1 [51] [0] [] ?_
          rw [hat]
          refine gg (k := ?_)
          refine draw_of (p := 0) tbOk hm [0, 1, 0, 4, 15, 31, 63, 127, 255, 511, 1023, 511, 2559, 6655, 14847, 511, 63999, 129535, 262143, 524287, 1048575, 2097151] [⟨0, true, false, [114, 115, 116, 117, 118, 119, 120, 121, 122, 123, 124, 125, 126, 127, 128, 129, 130, 131, 132, 133, 134]⟩, ⟨1, true, false, [115, 116, 117, 118, 119, 120, 121, 122, 123, 124, 125, 126, 127, 128, 129, 130, 131, 132, 133, 134]⟩, ⟨2, false, false, []⟩, ⟨3, false, false, []⟩, ⟨4, false, false, []⟩, ⟨5, false, false, []⟩, ⟨6, false, false, []⟩, ⟨7, false, false, []⟩, ⟨8, false, false, []⟩, ⟨9, true, false, [123, 124, 125, 126, 127, 128, 129, 130, 131, 132, 133, 134]⟩, ⟨10, true, false, [124, 125, 126, 127, 128, 129, 130, 131, 132, 133, 134]⟩, ⟨11, false, false, []⟩, ⟨12, true, false, [122, 123, 126, 127, 128, 129, 130, 131, 132, 133, 134]⟩, ⟨13, true, false, [122, 123, 127, 128, 129, 130, 131, 132, 133, 134]⟩, ⟨14, true, false, [122, 123, 128, 129, 130, 131, 132, 133, 134]⟩, ⟨15, false, false, []⟩, ⟨16, true, false, [122, 123, 130, 131, 132, 133, 134]⟩, ⟨17, true, false, [122, 123, 131, 132, 133, 134]⟩, ⟨18, true, true, [132, 133, 134]⟩, ⟨19, false, false, []⟩, ⟨20, false, false, []⟩, ⟨21, false, false, []⟩] (by kernel_rfl) ?_
          refine gg (k := ?_)
          conv => whnf
          refine And.intro (fun hG => by (simp [gpOs, gpO, gpA, getA, getL, opnds, okU, hG, vsR_len]; exact hp)) ⟨rfl, ?_⟩
          refine gg (k := ?_)
          simp only [Int.toNat_natCast, vsR_get hp]
          conv => whnf
          refine gcl (hA := fun hG => by first | exact ⟨trivial, hG, trivial, trivial⟩ | exact ⟨trivial, hG, hG, trivial⟩ | exact ⟨trivial, trivial, hG, trivial⟩ | exact ⟨trivial, trivial, trivial, trivial⟩) (k := ?_)
          refine cmks (same_vc 0 0 R[p].val R[p].val (by have := hpo.2; omega)) Tryz.call19 0 [] [] [] ?_
          rw [decide_eq_true (rfl : R[p].val = R[p].val)]
          refine gg (k := ?_)
          (
                                        refine gg (k := ?_)
                                        refine back_at (i + 1, vs, va, vb) hlt (by show l.length - (i + 1) < l.length - i; omega) ?_ ?_
                                        · exact no_implicit_lambda% ten
                                        · dsimp only [lpS, deadH, putH, setL, Nat.reduceAdd, Nat.zero_add]
                                          rw [hP2]
                                          exact no_implicit_lambda% hen)
        · have hnk : ∀ r ∈ R, r.key ≠ o.key := fun r hr e => hx ⟨r, hr, e⟩
          refine cmks (does9_none s c hNM.lk hgo la lb o hoi k1 (fun r hr => hnk r (hRM.perm.mem_iff.2 hr)) vs va vb 2 3) Tryz.call28 5 [35, 36, 37, 27, 28] [0, 0, 0, 0, 0] [] ?_
          refine gg (k := ?_)
          (
                                        refine gcl (k := ?_)
                                        refine cmks (hld vs va vb 2 3 1) Tryz.call18 6 [35, 36, 37, 27, 28, 51] [0, 0, 0, 0, 0, 0] [] ?_
                                        refine gg (k := ?_))
          rw [decide_eq_true k1]
          refine gg (k := ?_)
          refine cmks (mat_vc R (by omega) 0 o.key ((c * y - 16 : Nat) : Int) 1) Tryz.call29 1 [51] [0] [] ?_
          rw [atV_out hnk]
          refine gg (k := ?_)
          refine draw_of (p := 0) tbOk hm [0, 1, 0, 4, 15, 31, 63, 127, 255, 511, 1023, 511, 2559, 6655, 14847, 511, 63999, 129535, 262143, 524287, 1048575, 2097151] [⟨0, true, false, [114, 115, 116, 117, 118, 119, 120, 121, 122, 123, 124, 125, 126, 127, 128, 129, 130, 131, 132, 133, 134]⟩, ⟨1, true, false, [115, 116, 117, 118, 119, 120, 121, 122, 123, 124, 125, 126, 127, 128, 129, 130, 131, 132, 133, 134]⟩, ⟨2, false, false, []⟩, ⟨3, false, false, []⟩, ⟨4, false, false, []⟩, ⟨5, false, false, []⟩, ⟨6, false, false, []⟩, ⟨7, false, false, []⟩, ⟨8, false, false, []⟩, ⟨9, true, false, [123, 124, 125, 126, 127, 128, 129, 130, 131, 132, 133, 134]⟩, ⟨10, true, false, [124, 125, 126, 127, 128, 129, 130, 131, 132, 133, 134]⟩, ⟨11, false, false, []⟩, ⟨12, true, false, [122, 123, 126, 127, 128, 129, 130, 131, 132, 133, 134]⟩, ⟨13, true, false, [122, 123, 127, 128, 129, 130, 131, 132, 133, 134]⟩, ⟨14, true, false, [122, 123, 128, 129, 130, 131, 132, 133, 134]⟩, ⟨15, false, false, []⟩, ⟨16, true, false, [122, 123, 130, 131, 132, 133, 134]⟩, ⟨17, true, false, [122, 123, 131, 132, 133, 134]⟩, ⟨18, true, true, [132, 133, 134]⟩, ⟨19, false, false, []⟩, ⟨20, false, false, []⟩, ⟨21, false, false, []⟩] (by kernel_rfl) ?_
          refine gg (k := ?_)
          intro _
          refine gg (k := ?_)
          refine back_at (i + 1, vs, va, vb) hlt (by show l.length - (i + 1) < l.length - i; omega) ?_ ?_
          · exact no_implicit_lambda% ten
          · dsimp only [lpS, deadH, putH, setL, Nat.reduceAdd, Nat.zero_add]
            rw [hP2]
            exact no_implicit_lambda% hen
      rw [decide_eq_false k1]
      refine gg (k := ?_)
      by_cases k4 : o.K = 4
      · (
                                        rw [show stepP c ((c * y - 16 : Nat) : Int) (s, R) o = (s, R) from (if_neg (by omega)).trans (if_neg (by omega))] at hsu
                                        subst hsu)
        rw [decide_eq_true k4]
        refine gg (k := ?_)
        refine cmks (does9_keysF s c hNM.lk hgo la lb o hoi k4 ((hRM.perm.map _).nodup_iff.1 hRM.nod) (fun r hr => (hok r (hRM.perm.mem_iff.2 hr)).1.2) (by have := hRM.perm.length_eq; omega) vs va vb 2 3) Tryz.call28 5 [35, 36, 37, 27, 28] [0, 0, 0, 0, 0] [] ?_
        refine gg (k := ?_)
        (
                                        refine gcl (k := ?_)
                                        refine cmks (hld vs va vb 2 3 1) Tryz.call18 6 [35, 36, 37, 27, 28, 51] [0, 0, 0, 0, 0, 0] [] ?_
                                        refine gg (k := ?_))
        (
                                        rw [decide_eq_false k1]
                                        refine gg (k := ?_)
                                        refine back_at (i + 1, vs, va, vb) hlt (by show l.length - (i + 1) < l.length - i; omega) ?_ ?_
                                        · exact no_implicit_lambda% ten
                                        · dsimp only [lpS, deadH, putH, setL, Nat.reduceAdd, Nat.zero_add]
                                          rw [hP2]
                                          exact no_implicit_lambda% hen)
      rw [decide_eq_false k4]
      refine gg (k := ?_)
      by_cases k5 : o.K = 5
      · (
                                        rw [show stepP c ((c * y - 16 : Nat) : Int) (s, R) o = (s, R) from (if_neg (by omega)).trans (if_neg (by omega))] at hsu
                                        subst hsu)
        rw [decide_eq_true k5]
        refine gg (k := ?_)
        refine cmks (does9_used s c hNM.lk hgo la lb o hoi k5 vs va vb 2 3) Tryz.call28 5 [35, 36, 37, 27, 28] [0, 0, 0, 0, 0] [] ?_
        refine gg (k := ?_)
        (
                                        refine gcl (k := ?_)
                                        refine cmks (hld vs va vb 2 3 1) Tryz.call18 6 [35, 36, 37, 27, 28, 51] [0, 0, 0, 0, 0, 0] [] ?_
                                        refine gg (k := ?_))
        (
                                        rw [decide_eq_false k1]
                                        refine gg (k := ?_)
                                        refine back_at (i + 1, vs, va, vb) hlt (by show l.length - (i + 1) < l.length - i; omega) ?_ ?_
                                        · exact no_implicit_lambda% ten
                                        · dsimp only [lpS, deadH, putH, setL, Nat.reduceAdd, Nat.zero_add]
                                          rw [hP2]
                                          exact no_implicit_lambda% hen)
      rw [decide_eq_false k5]
      refine gg (k := ?_)
      by_cases k2 : o.K = 2
      · rw [show stepP c ((c * y - 16 : Nat) : Int) (s, R) o = ((s.set c o.key o.val).2, setW R ((c * y - 16 : Nat) : Int) o.key o.val) from if_pos k2] at hsu
        subst hsu
        rw [decide_eq_true k2]
        refine gg (k := ?_)
        refine cmks (mset_vc R hso hok (by omega) o.key o.val hkey hval ((c * y - 16 : Nat) : Int) 1) Tryz.call21 1 [51] [0] [] ?_
        refine gg (k := ?_)
        refine cmks (does9_set s c hgo (by omega) la lb hNM.live o hoi k2 vs va vb 2 3) Tryz.call28 5 [35, 36, 37, 27, 28] [0, 0, 0, 0, 0] [] ?_
        rw [hset.1]
        refine gg (k := ?_)
        (
                                        conv => whnf
                                        refine gcl (hA := fun hG => by first | exact ⟨trivial, hG, hG, trivial⟩ | exact ⟨trivial, trivial, hG, trivial⟩ | exact ⟨trivial, hG, trivial, trivial⟩ | exact ⟨trivial, trivial, trivial, trivial⟩) (k := ?_)
                                        refine cmks (hld vs va vb 2 3 1) Tryz.call18 6 [35, 36, 37, 27, 28, 51] [0, 0, 0, 0, 0, 0] [] ?_
                                        refine gg (k := ?_))
        (
                                        rw [decide_eq_false k1]
                                        refine gg (k := ?_)
                                        refine back_at (i + 1, vs, va, vb) hlt (by show l.length - (i + 1) < l.length - i; omega) ?_ ?_
                                        · exact no_implicit_lambda% ten
                                        · dsimp only [lpS, deadH, putH, setL, Nat.reduceAdd, Nat.zero_add]
                                          rw [hP2]
                                          exact no_implicit_lambda% hen)
      rw [decide_eq_false k2]
      refine gg (k := ?_)
      by_cases k3 : o.K = 3
      · rw [show stepP c ((c * y - 16 : Nat) : Int) (s, R) o = ((s.del c o.key).2, delR R o.key) from (if_neg k2).trans (if_pos k3)] at hsu
        subst hsu
        rw [decide_eq_true k3]
        refine gg (k := ?_)
        refine cmks (mdel_vc R hso (by omega) 0 o.key ((c * y - 16 : Nat) : Int) 1) Tryz.call24 1 [51] [0] [] ?_
        refine gg (k := ?_)
        refine cmks (does9_del s c hgo (by omega) la lb o hoi k3 vs va vb 2 3) Tryz.call28 5 [35, 36, 37, 27, 28] [0, 0, 0, 0, 0] [] ?_
        rw [hdel.1]
        refine gg (k := ?_)
        (
                                        conv => whnf
                                        refine gcl (hA := fun hG => by first | exact ⟨trivial, hG, hG, trivial⟩ | exact ⟨trivial, trivial, hG, trivial⟩ | exact ⟨trivial, hG, trivial, trivial⟩ | exact ⟨trivial, trivial, trivial, trivial⟩) (k := ?_)
                                        refine cmks (hld vs va vb 2 3 1) Tryz.call18 6 [35, 36, 37, 27, 28, 51] [0, 0, 0, 0, 0, 0] [] ?_
                                        refine gg (k := ?_))
        (
                                        rw [decide_eq_false k1]
                                        refine gg (k := ?_)
                                        refine back_at (i + 1, vs, va, vb) hlt (by show l.length - (i + 1) < l.length - i; omega) ?_ ?_
                                        · exact no_implicit_lambda% ten
                                        · dsimp only [lpS, deadH, putH, setL, Nat.reduceAdd, Nat.zero_add]
                                          rw [hP2]
                                          exact no_implicit_lambda% hen)
      · (
                                        rw [show stepP c ((c * y - 16 : Nat) : Int) (s, R) o = (s, R) from (if_neg (by omega)).trans (if_neg (by omega))] at hsu
                                        subst hsu)
        rw [decide_eq_false k3]
        (
                                        refine gg (k := ?_)
                                        refine back_at (i + 1, vs, va, vb) hlt (by show l.length - (i + 1) < l.length - i; omega) ?_ ?_
                                        · exact no_implicit_lambda% ten
                                        · dsimp only [lpS, deadH, putH, setL, Nat.reduceAdd, Nat.zero_add]
                                          rw [hP2]
                                          exact no_implicit_lambda% hen)
    · refine gg (k := ?_)
      (
                                        refine cmks (works9_vc) Tryz.call13 0 [] [] [] ?_
                                        refine gg (k := ?_)
                                        exact ⟨_, rfl, rfl, trivial⟩)
end Go.Proofs.YtpbpiehcchannaaGreatDoor
