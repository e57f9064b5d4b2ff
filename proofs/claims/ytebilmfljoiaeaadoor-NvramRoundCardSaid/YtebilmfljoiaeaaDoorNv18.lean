/- Walks of lintellaw09: NvramRound. Conditions: none. -/
import Derived.Test.YtebilmfljoiaeaaDoorNv17
import Derived.Test.YtebilmfljoiaeaaDoorNp5
namespace Go.Proofs.YtebilmfljoiaeaaDoor
open Go.RowKit
set_option linter.unusedVariables false
set_option linter.unusedSimpArgs false
set_option maxRecDepth 100000
set_option maxHeartbeats 1500000
theorem law_round (a b d : Nat) (ha : a < 256) (hb : b < 256) (hd : d < 256) : Spec Tryd.prog 3 [.val (.int .u8 (a : Int)), .val (.int .u8 (b : Int)), .val (.int .u8 (d : Int))] [] (pms (.val (.bool true)) [] []) := by
  obtain ⟨s1, b1, o1, m1⟩ := NM.new (c := 1) (k := 96 + a) (by omega) (by omega)
  have o1' : (FlS.new 2 (96 + a)).opn 1 = (0, s1) := o1
  have b1' : (FlS.new 2 (96 + a)).bgn 0 1 1 [] = (0, s1) := b1
  have la : Lies (2 * (96 + a)) (96 + a) 0 1 := ⟨by decide, by omega, by omega, by decide⟩
  have lb : Lies (2 * (96 + a)) (96 + a) 1 1 := ⟨by decide, by omega, by omega, by decide⟩
  have g0 : Goes 0 (2 * (96 + a)) (96 + a) (FlS.new 2 (96 + a)) := Goes.new 2 (96 + a) (by decide) (by omega)
  have g1 : Goes 14 (2 * (96 + a)) (96 + a) s1 := by have := g0.bgn0 1 1; rw [b1'] at this; exact this
  have hN := spec_new 2 (96 + a) (by decide) (by omega)
  have hop := spec_mono (open_vc (FlS.new 2 (96 + a)) 1 g0 (by decide) la lb (by omega) rfl 2 3) fun X H q => q.1 (by rw [o1'])
  rw [o1'] at hop
  generalize FlS.new 2 (96 + a) = S at hN hop
  refine spec_entry tbOk Tryd.func3 rfl Tryd.ntmps3 Tryd.results3 ?_
  (repeat (first | refine gos (k := ?_) | refine fun (_ : _ = false) => ?_ | refine ⟨fun (_ : true = true) => ?_, fun h => absurd h (by decide)⟩ | refine gtr (k := ?_)))
  rw [show (96 : Int) + (a : Int) = ((96 + a : Nat) : Int) by omega]
  refine cmks (hN) Tryd.call5 0 [0, 0, 0, 0, 0, 0, 0, 0, 0, 0, 0, 0, 0, 0, 0, 0, 0, 0, 0, 0, 0, 0, 0, 0, 21, 0, 0, 20] [0, 0, 0, 0, 0, 0, 0, 0, 0, 0, 0, 0, 0, 0, 0, 0, 0, 0, 0, 0, 0, 0, 0, 0, 1, 0, 0, 1] [27, 24] ?_
  (repeat (first | refine gos (k := ?_) | refine fun (_ : _ = false) => ?_ | refine ⟨fun (_ : true = true) => ?_, fun h => absurd h (by decide)⟩ | refine gtr (k := ?_)))
  refine cmks (hop) Tryd.call6 2 [20, 21, 0, 0, 0, 0, 0, 0, 0, 0, 0, 0, 0, 0, 0, 0, 0, 0, 0, 0, 0, 0, 0, 0, 0, 0, 0, 0, 0, 0, 0, 0, 0, 0, 0, 0, 0, 0, 0, 31, 0, 0, 0, 0, 0, 0, 0, 0, 0, 0, 0, 0, 0, 0, 0, 0, 0, 0, 0, 0, 0, 0, 0, 0, 0, 0, 0, 0, 0, 0, 0, 0, 0, 0, 0, 0, 0, 0, 0, 0, 32, 33] [0, 0, 0, 0, 0, 0, 0, 0, 0, 0, 0, 0, 0, 0, 0, 0, 0, 0, 0, 0, 0, 0, 0, 0, 0, 0, 0, 0, 0, 0, 0, 0, 0, 0, 0, 0, 0, 0, 0, 1, 0, 0, 0, 0, 0, 0, 0, 0, 0, 0, 0, 0, 0, 0, 0, 0, 0, 0, 0, 0, 0, 0, 0, 0, 0, 0, 0, 0, 0, 0, 0, 0, 0, 0, 0, 0, 0, 0, 0, 0, 1, 1] [39, 80, 81] ?_
  (repeat (first | refine gos (k := ?_) | refine fun (_ : _ = false) => ?_ | refine ⟨fun (_ : true = true) => ?_, fun h => absurd h (by decide)⟩ | refine gtr (k := ?_)))
  (refine sts (k := ?_))
  conv => whnf
  refine loop_at (fun y : Nat × FlS => y.1 ≤ b % 201 ∧ ∃ G, NM y.2 1 (96 + a) G (rndM d y.1) ∧ G ≤ 1 + y.1 ∧ Goes (14 + y.1 * 300000000000) (2 * (96 + a)) (96 + a) y.2) (fun y => 201 - y.1) 0 [6, 11, 12, 13, 14, 36, 37, 38, 39, 40, 41, 42, 43, 44, 45, 46, 47, 48, 49, 50, 51, 52, 53, 54, 55, 56, 57, 58, 59, 60, 61, 62, 63] (fun y => [(6, .val (.bool false)), (11, .val (.int .i64 (y.1 : Int)))]) (fun y => [(10, ⟨1, .obj [.val (.int .i64 (rndL d y.1 0 : Int)), .val (.int .i64 (rndL d y.1 1 : Int)), .val (.int .i64 (rndL d y.1 2 : Int))]⟩), (20, ⟨2, .obj [.own 21 3 1 0 y.2.l.length, .val (.int .i64 (y.2.k : Int)), .val (.int .i64 y.2.ar), .val (.int .i64 y.2.pt), .val (.bool y.2.dd), .val (.int .i64 y.2.wr)]⟩), (21, ⟨3, .bytes y.2.l⟩)]) (0, s1) ⟨Nat.zero_le _, 1, m1, by simp, by simpa using g1⟩ ?_ ?_ ?_
  · ((try dsimp only [lpS, anyT, putT, setL]); (repeat (refine And.intro (by first | exact trivial | exact rfl) ?_)); (first | exact trivial | skip))
  · ((try dsimp only [lpS, deadH, putH, setL, Nat.reduceAdd, Nat.zero_add]); (repeat (refine And.intro (by first | exact rfl | exact trivial) ?_)); (first | exact trivial | skip))
  · rintro ⟨i, s⟩ v ⟨i1, G, mm, hG, gg⟩
    simp only at i1 mm hG gg
    (dsimp only [lpS, anyT, putT, setL, deadH, putH, Nat.reduceAdd, Nat.zero_add])
    (repeat (first | refine gos (k := ?_) | refine fun (_ : _ = false) => ?_ | refine ⟨fun (_ : true = true) => ?_, fun h => absurd h (by decide)⟩ | refine gtr (k := ?_)))
    refine ⟨fun h => ?_, fun h => ?_⟩
    · have hlt : i < b % 201 := by have := of_decide_eq_true h; omega
      obtain ⟨kk, hkk⟩ : ∃ kk, kk = (i + d) % 3 := ⟨_, rfl⟩
      have hkI : ((i : Int) + (d : Int)) % 3 = (kk : Int) := by omega
      (repeat (first | refine gos (k := ?_) | refine fun (_ : _ = false) => ?_ | refine ⟨fun (_ : true = true) => ?_, fun h => absurd h (by decide)⟩ | refine gtr (k := ?_)))
      rw [hkI]
      (repeat (first | refine gos (k := ?_) | refine fun (_ : _ = false) => ?_ | refine ⟨fun (_ : true = true) => ?_, fun h => absurd h (by decide)⟩ | refine gtr (k := ?_)))
      (
                                        conv => whnf
                                        refine And.intro (by (repeat' apply And.intro) <;> first | exact rfl | exact trivial | exact Nat.le_of_ble_eq_true rfl | omega) ?_)
      (repeat (first | refine gos (k := ?_) | refine fun (_ : _ = false) => ?_ | refine ⟨fun (_ : true = true) => ?_, fun h => absurd h (by decide)⟩ | refine gtr (k := ?_)))
      (
                                        conv => whnf
                                        refine And.intro (by (repeat' apply And.intro) <;> first | exact rfl | exact trivial | exact Nat.le_of_ble_eq_true rfl | omega) ?_)
      (repeat (first | refine gos (k := ?_) | refine fun (_ : _ = false) => ?_ | refine ⟨fun (_ : true = true) => ?_, fun h => absurd h (by decide)⟩ | refine gtr (k := ?_)))
      rw [show List.map (fun n : Int => UInt8.ofNat n.toNat) [107, (kk : Int) % 256] = rKey kk from congrArg (fun x => [107, UInt8.ofNat x]) (by omega), show List.map (fun n : Int => UInt8.ofNat n.toNat) [(i : Int) % 256, (i : Int) % 256] = rVal i from congrArg (fun x => [UInt8.ofNat x, UInt8.ofNat x]) (by omega)]
      obtain ⟨s', es, ms⟩ := (mm.set (by omega) (by omega) (key := rKey kk) (val := rVal i) ⟨by show 1 ≤ 2; decide, by show 2 ≤ 255; decide⟩ (by show 2 ≤ 65536; decide)).2 (by have := rnd_used d i; show usedK _ + (12 + 2 + 2) ≤ _; omega)
      have hset := set_own s 1 gg (by omega) la lb mm.live (rKey kk) (rVal i) 2 2 rfl rfl (by show 2 ≤ 140737488355328; decide) (by show 2 ≤ 140737488355328; decide) 2 3 3 2 3 (v 53 + 1) (v 56 + 1)
      have gg' := gg.set la lb (rKey kk) (rVal i)
      rw [es] at hset gg'
      refine cmks (hset) Tryd.call7 7 [31, 32, 33, 20, 21, 53, 56] [0, 0, 0, 0, 0, 0, 0] [] ?_
      (repeat (first | refine gos (k := ?_) | refine fun (_ : _ = false) => ?_ | refine ⟨fun (_ : true = true) => ?_, fun h => absurd h (by decide)⟩ | refine gtr (k := ?_)))
      have hk3 : kk < 3 := by omega
      have hnx : Goes (14 + ((i + 1 : Nat) : Int) * 300000000000) (2 * (96 + a)) (96 + a) s' := gg'.mono (by omega)
      have mnx : NM s' 1 (96 + a) (G + 1) (rndM d (i + 1)) := by rw [rndM, ← hkk]; exact ms
      have hr : ∀ q : Nat, ((rndL d (i + 1) q : Nat) : Int) = if q = kk then (i : Int) + 1 else (rndL d i q : Int) := fun q => by
        rw [rndL, ← hkk]; split <;> simp
      have h0 := hr 0
      have h1 := hr 1
      have h2 := hr 2
      clear hr
      obtain rfl | rfl | rfl : kk = 0 ∨ kk = 1 ∨ kk = 2 := by omega
      (
                                        · simp only [if_true, if_neg (by decide : ¬ (0 : Nat) = 1), if_neg (by decide : ¬ (0 : Nat) = 2), if_neg (by decide : ¬ (1 : Nat) = 0), if_neg (by decide : ¬ (1 : Nat) = 2), if_neg (by decide : ¬ (2 : Nat) = 0), if_neg (by decide : ¬ (2 : Nat) = 1)] at h0 h1 h2
                                          (repeat (first | refine gos (k := ?_) | refine fun (_ : _ = false) => ?_ | refine ⟨fun (_ : true = true) => ?_, fun h => absurd h (by decide)⟩ | refine gtr (k := ?_)))
                                          refine back_at (i + 1, s') ⟨by omega, G + 1, mnx, by omega, hnx⟩ (by show 201 - (i + 1) < 201 - i; omega) ?_ ?_
                                          · ((try dsimp only [lpS, anyT, putT, setL]); (repeat (refine And.intro (by first | exact trivial | exact rfl) ?_)); (first | exact trivial | skip))
                                          · dsimp only [lpS, deadH, putH, setL, Nat.reduceAdd, Nat.zero_add]
                                            rw [h0, h1, h2]
                                            ((try dsimp only [lpS, deadH, putH, setL, Nat.reduceAdd, Nat.zero_add]); (repeat (refine And.intro (by first | exact rfl | exact trivial) ?_)); (first | exact trivial | skip)))
      (
                                        · simp only [if_true, if_neg (by decide : ¬ (0 : Nat) = 1), if_neg (by decide : ¬ (0 : Nat) = 2), if_neg (by decide : ¬ (1 : Nat) = 0), if_neg (by decide : ¬ (1 : Nat) = 2), if_neg (by decide : ¬ (2 : Nat) = 0), if_neg (by decide : ¬ (2 : Nat) = 1)] at h0 h1 h2
                                          (repeat (first | refine gos (k := ?_) | refine fun (_ : _ = false) => ?_ | refine ⟨fun (_ : true = true) => ?_, fun h => absurd h (by decide)⟩ | refine gtr (k := ?_)))
                                          refine back_at (i + 1, s') ⟨by omega, G + 1, mnx, by omega, hnx⟩ (by show 201 - (i + 1) < 201 - i; omega) ?_ ?_
                                          · ((try dsimp only [lpS, anyT, putT, setL]); (repeat (refine And.intro (by first | exact trivial | exact rfl) ?_)); (first | exact trivial | skip))
                                          · dsimp only [lpS, deadH, putH, setL, Nat.reduceAdd, Nat.zero_add]
                                            rw [h0, h1, h2]
                                            ((try dsimp only [lpS, deadH, putH, setL, Nat.reduceAdd, Nat.zero_add]); (repeat (refine And.intro (by first | exact rfl | exact trivial) ?_)); (first | exact trivial | skip)))
      (
                                        · simp only [if_true, if_neg (by decide : ¬ (0 : Nat) = 1), if_neg (by decide : ¬ (0 : Nat) = 2), if_neg (by decide : ¬ (1 : Nat) = 0), if_neg (by decide : ¬ (1 : Nat) = 2), if_neg (by decide : ¬ (2 : Nat) = 0), if_neg (by decide : ¬ (2 : Nat) = 1)] at h0 h1 h2
                                          (repeat (first | refine gos (k := ?_) | refine fun (_ : _ = false) => ?_ | refine ⟨fun (_ : true = true) => ?_, fun h => absurd h (by decide)⟩ | refine gtr (k := ?_)))
                                          refine back_at (i + 1, s') ⟨by omega, G + 1, mnx, by omega, hnx⟩ (by show 201 - (i + 1) < 201 - i; omega) ?_ ?_
                                          · ((try dsimp only [lpS, anyT, putT, setL]); (repeat (refine And.intro (by first | exact trivial | exact rfl) ?_)); (first | exact trivial | skip))
                                          · dsimp only [lpS, deadH, putH, setL, Nat.reduceAdd, Nat.zero_add]
                                            rw [h0, h1, h2]
                                            ((try dsimp only [lpS, deadH, putH, setL, Nat.reduceAdd, Nat.zero_add]); (repeat (refine And.intro (by first | exact rfl | exact trivial) ?_)); (first | exact trivial | skip)))
    · have hT : i = b % 201 := by have := of_decide_eq_false h; omega
      (repeat (first | refine gos (k := ?_) | refine fun (_ : _ = false) => ?_ | refine ⟨fun (_ : true = true) => ?_, fun h => absurd h (by decide)⟩ | refine gtr (k := ?_)))
      have ho2 := mm.opn
      have hop2 := spec_mono (open_vc s 1 gg (by omega) la lb (by omega) mm.live 2 3) fun X H q => q.1 (by rw [ho2])
      rw [ho2] at hop2
      refine cmks (hop2) Tryd.call6 2 [20, 21, 0, 0, 0, 0, 0, 0, 0, 0, 0, 0, 0, 0, 0, 0, 0, 0, 0, 0, 0, 0, 0, 0, 0, 0, 0, 0, 0, 0, 0, 0, 0, 0, 0, 0, 0, 0, 0, 64, 0, 0, 0, 0, 0, 0, 0, 0, 0, 0, 0, 0, 0, 0, 0, 0, 0, 0, 0, 0, 0, 0, 0, 0, 0, 0, 0, 0, 0, 0, 0, 0, 0, 0, 0, 0, 0, 0, 0, 0, 67, 68] [0, 0, 0, 0, 0, 0, 0, 0, 0, 0, 0, 0, 0, 0, 0, 0, 0, 0, 0, 0, 0, 0, 0, 0, 0, 0, 0, 0, 0, 0, 0, 0, 0, 0, 0, 0, 0, 0, 0, 1, 0, 0, 0, 0, 0, 0, 0, 0, 0, 0, 0, 0, 0, 0, 0, 0, 0, 0, 0, 0, 0, 0, 0, 0, 0, 0, 0, 0, 0, 0, 0, 0, 0, 0, 0, 0, 0, 0, 0, 0, 1, 1] [39, 80, 81] ?_
      (repeat (first | refine gos (k := ?_) | refine fun (_ : _ = false) => ?_ | refine ⟨fun (_ : true = true) => ?_, fun h => absurd h (by decide)⟩ | refine gtr (k := ?_)))
      (refine sts (k := ?_))
      conv => whnf
      refine loop_at (fun q : Nat => q ≤ 3) (fun q => 3 - q) 0 [6, 16, 17, 18, 19, 71, 72, 73, 74, 75, 76, 77, 78, 79, 80, 81, 82, 83, 84, 85, 86, 87, 88, 89, 90, 91, 92, 93, 94, 95, 96, 97, 98, 99, 100, 101, 102, 103, 104, 105, 106, 107, 108, 109, 110, 111, 112] (fun q => [(6, .val (.bool false)), (16, .val (.int .i64 (q : Int)))]) (fun q => []) 0 (by decide) ?_ ?_ ?_
      · ((try dsimp only [lpS, anyT, putT, setL]); (repeat (refine And.intro (by first | exact trivial | exact rfl) ?_)); (first | exact trivial | skip))
      · ((try dsimp only [lpS, deadH, putH, setL, Nat.reduceAdd, Nat.zero_add]); (repeat (refine And.intro (by first | exact rfl | exact trivial) ?_)); (first | exact trivial | skip))
      · rintro q v' q1
        (dsimp only [lpS, anyT, putT, setL, deadH, putH, Nat.reduceAdd, Nat.zero_add])
        (repeat (first | refine gos (k := ?_) | refine fun (_ : _ = false) => ?_ | refine ⟨fun (_ : true = true) => ?_, fun h => absurd h (by decide)⟩ | refine gtr (k := ?_)))
        refine ⟨fun h => ?_, fun h => ?_⟩
        · have hq : q < 3 := by have := of_decide_eq_true h; omega
          (repeat (first | refine gos (k := ?_) | refine fun (_ : _ = false) => ?_ | refine ⟨fun (_ : true = true) => ?_, fun h => absurd h (by decide)⟩ | refine gtr (k := ?_)))
          (
                                        conv => whnf
                                        refine And.intro (by (repeat' apply And.intro) <;> first | exact rfl | exact trivial | exact Nat.le_of_ble_eq_true rfl | omega) ?_)
          (repeat (first | refine gos (k := ?_) | refine fun (_ : _ = false) => ?_ | refine ⟨fun (_ : true = true) => ?_, fun h => absurd h (by decide)⟩ | refine gtr (k := ?_)))
          rw [show List.map (fun n : Int => UInt8.ofNat n.toNat) [107, (q : Int) % 256] = rKey q from congrArg (fun x => [107, UInt8.ofNat x]) (by omega)]
          rcases Nat.eq_zero_or_pos (rndL d i q) with hz | hp
          · refine cmks (get_out s 1 mm gg la lb (rKey q) (rnd_out d i q hq hz) 2 rfl 2 3 3 2 3 (v' 79 + 1)) Tryd.call8 6 [64, 67, 68, 20, 21, 79] [0, 0, 0, 0, 0, 0] [] ?_
            (repeat (first | refine gos (k := ?_) | refine fun (_ : _ = false) => ?_ | refine ⟨fun (_ : true = true) => ?_, fun h => absurd h (by decide)⟩ | refine gtr (k := ?_)))
            (refine sts (k := ?_))
            refine draw_of (p := 0) tbOk hm [0, 1, 3, 7, 7, 23, 55, 119, 255, 511, 1023, 2047, 4095, 8191, 8191, 24575, 57343, 122879, 253951, 8191, 532479, 1581055, 3678207, 7872511, 16769023, 33554431, 67108863, 134217727, 268435455] [⟨0, false, false, []⟩, ⟨1, false, false, []⟩, ⟨2, false, false, []⟩, ⟨3, false, false, []⟩, ⟨4, false, false, []⟩, ⟨5, true, false, [87, 90, 91, 92, 93, 94, 95, 96, 97, 98, 99, 100, 101, 102, 103, 104, 105, 106, 107, 108, 109, 110, 111, 112]⟩, ⟨6, true, false, [87, 91, 92, 93, 94, 95, 96, 97, 98, 99, 100, 101, 102, 103, 104, 105, 106, 107, 108, 109, 110, 111, 112]⟩, ⟨7, false, false, []⟩, ⟨8, false, false, []⟩, ⟨9, false, false, []⟩, ⟨10, false, false, []⟩, ⟨11, false, false, []⟩, ⟨12, false, false, []⟩, ⟨13, false, false, []⟩, ⟨14, false, false, []⟩, ⟨15, true, false, [97, 100, 101, 102, 103, 104, 105, 106, 107, 108, 109, 110, 111, 112]⟩, ⟨16, true, false, [97, 101, 102, 103, 104, 105, 106, 107, 108, 109, 110, 111, 112]⟩, ⟨17, false, false, []⟩, ⟨18, true, false, [97, 103, 104, 105, 106, 107, 108, 109, 110, 111, 112]⟩, ⟨19, false, false, []⟩, ⟨20, true, false, [97, 98, 99, 100, 101, 102, 105, 106, 107, 108, 109, 110, 111, 112]⟩, ⟨21, true, false, [97, 98, 99, 100, 101, 102, 106, 107, 108, 109, 110, 111, 112]⟩, ⟨22, false, false, []⟩, ⟨23, true, false, [97, 98, 99, 100, 101, 102, 108, 109, 110, 111, 112]⟩, ⟨24, true, false, [97, 109, 110, 111, 112]⟩, ⟨25, true, true, [110, 111, 112]⟩, ⟨26, false, false, []⟩, ⟨27, false, false, []⟩, ⟨28, false, false, []⟩] (by kernel_rfl) ?_
            obtain rfl | rfl | rfl : q = 0 ∨ q = 1 ∨ q = 2 := by omega
            (
                                        · rw [hz]
                                          (repeat (first | refine gos (k := ?_) | refine fun (_ : _ = false) => ?_ | refine ⟨fun (_ : true = true) => ?_, fun h => absurd h (by decide)⟩ | refine gtr (k := ?_)))
                                          intro _
                                          (repeat (first | refine gos (k := ?_) | refine fun (_ : _ = false) => ?_ | refine ⟨fun (_ : true = true) => ?_, fun h => absurd h (by decide)⟩ | refine gtr (k := ?_)))
                                          intro _
                                          (repeat (first | refine gos (k := ?_) | refine fun (_ : _ = false) => ?_ | refine ⟨fun (_ : true = true) => ?_, fun h => absurd h (by decide)⟩ | refine gtr (k := ?_)))
                                          refine back_at 1 (by omega) (by show 3 - 1 < 3 - (1 - 1); decide) ?_ ?_
                                          · ((try dsimp only [lpS, anyT, putT, setL]); (repeat (refine And.intro (by first | exact trivial | exact rfl) ?_)); (first | exact trivial | skip))
                                          · ((try dsimp only [lpS, deadH, putH, setL, Nat.reduceAdd, Nat.zero_add]); (repeat (refine And.intro (by first | exact rfl | exact trivial) ?_)); (first | exact trivial | skip)))
            (
                                        · rw [hz]
                                          (repeat (first | refine gos (k := ?_) | refine fun (_ : _ = false) => ?_ | refine ⟨fun (_ : true = true) => ?_, fun h => absurd h (by decide)⟩ | refine gtr (k := ?_)))
                                          intro _
                                          (repeat (first | refine gos (k := ?_) | refine fun (_ : _ = false) => ?_ | refine ⟨fun (_ : true = true) => ?_, fun h => absurd h (by decide)⟩ | refine gtr (k := ?_)))
                                          intro _
                                          (repeat (first | refine gos (k := ?_) | refine fun (_ : _ = false) => ?_ | refine ⟨fun (_ : true = true) => ?_, fun h => absurd h (by decide)⟩ | refine gtr (k := ?_)))
                                          refine back_at 2 (by omega) (by show 3 - 2 < 3 - (2 - 1); decide) ?_ ?_
                                          · ((try dsimp only [lpS, anyT, putT, setL]); (repeat (refine And.intro (by first | exact trivial | exact rfl) ?_)); (first | exact trivial | skip))
                                          · ((try dsimp only [lpS, deadH, putH, setL, Nat.reduceAdd, Nat.zero_add]); (repeat (refine And.intro (by first | exact rfl | exact trivial) ?_)); (first | exact trivial | skip)))
            (
                                        · rw [hz]
                                          (repeat (first | refine gos (k := ?_) | refine fun (_ : _ = false) => ?_ | refine ⟨fun (_ : true = true) => ?_, fun h => absurd h (by decide)⟩ | refine gtr (k := ?_)))
                                          intro _
                                          (repeat (first | refine gos (k := ?_) | refine fun (_ : _ = false) => ?_ | refine ⟨fun (_ : true = true) => ?_, fun h => absurd h (by decide)⟩ | refine gtr (k := ?_)))
                                          intro _
                                          (repeat (first | refine gos (k := ?_) | refine fun (_ : _ = false) => ?_ | refine ⟨fun (_ : true = true) => ?_, fun h => absurd h (by decide)⟩ | refine gtr (k := ?_)))
                                          refine back_at 3 (by omega) (by show 3 - 3 < 3 - (3 - 1); decide) ?_ ?_
                                          · ((try dsimp only [lpS, anyT, putT, setL]); (repeat (refine And.intro (by first | exact trivial | exact rfl) ?_)); (first | exact trivial | skip))
                                          · ((try dsimp only [lpS, deadH, putH, setL, Nat.reduceAdd, Nat.zero_add]); (repeat (refine And.intro (by first | exact rfl | exact trivial) ?_)); (first | exact trivial | skip)))
          · obtain ⟨ps, u, hu, hS⟩ := get_in s 1 mm gg la lb _ (rnd_in d i q hq hp) 2 rfl 2 3 3 2 3 (v' 79 + 1)
            obtain ⟨m, hmL⟩ : ∃ m, rndL d i q = m + 1 := ⟨rndL d i q - 1, by omega⟩
            rw [hmL, Nat.add_sub_cancel] at hS hu
            have hdp : decide ((0 : Int) < ((m + 1 : Nat) : Int)) = true := decide_eq_true (by omega)
            have hml := rnd_le d i q
            refine cmks (hS) Tryd.call8 (had := ⟨⟨_, rfl, Nat.lt_succ_self (v' 75)⟩, trivial⟩) (hz := fun r hr => by match r, hr with | 0, _ => rfl | 1, _ => rfl | 2, _ => rfl | 3, _ => rfl | 4, _ => rfl | 5, _ => rfl) 6 [64, 67, 68, 20, 21, 79, 0, 0, 0, 0, 0, 0, 0, 0, 0, 0, 0, 0, 0, 0, 0, 0, 75] [0, 0, 0, 0, 0, 0, 0, 0, 0, 0, 0, 0, 0, 0, 0, 0, 0, 0, 0, 0, 0, 0, (v' 75 + 1)] [22] ?_
            (repeat (first | refine gos (k := ?_) | refine fun (_ : _ = false) => ?_ | refine ⟨fun (_ : true = true) => ?_, fun h => absurd h (by decide)⟩ | refine gtr (k := ?_)))
            (refine sts (k := ?_))
            refine draw_of (p := 0) tbOk hm [0, 1, 3, 7, 7, 23, 55, 119, 255, 511, 1023, 2047, 4095, 8191, 8191, 24575, 57343, 122879, 253951, 8191, 532479, 1581055, 3678207, 7872511, 16769023, 33554431, 67108863, 134217727, 268435455] [⟨0, false, false, []⟩, ⟨1, false, false, []⟩, ⟨2, false, false, []⟩, ⟨3, false, false, []⟩, ⟨4, false, false, []⟩, ⟨5, true, false, [87, 90, 91, 92, 93, 94, 95, 96, 97, 98, 99, 100, 101, 102, 103, 104, 105, 106, 107, 108, 109, 110, 111, 112]⟩, ⟨6, true, false, [87, 91, 92, 93, 94, 95, 96, 97, 98, 99, 100, 101, 102, 103, 104, 105, 106, 107, 108, 109, 110, 111, 112]⟩, ⟨7, false, false, []⟩, ⟨8, false, false, []⟩, ⟨9, false, false, []⟩, ⟨10, false, false, []⟩, ⟨11, false, false, []⟩, ⟨12, false, false, []⟩, ⟨13, false, false, []⟩, ⟨14, false, false, []⟩, ⟨15, true, false, [97, 100, 101, 102, 103, 104, 105, 106, 107, 108, 109, 110, 111, 112]⟩, ⟨16, true, false, [97, 101, 102, 103, 104, 105, 106, 107, 108, 109, 110, 111, 112]⟩, ⟨17, false, false, []⟩, ⟨18, true, false, [97, 103, 104, 105, 106, 107, 108, 109, 110, 111, 112]⟩, ⟨19, false, false, []⟩, ⟨20, true, false, [97, 98, 99, 100, 101, 102, 105, 106, 107, 108, 109, 110, 111, 112]⟩, ⟨21, true, false, [97, 98, 99, 100, 101, 102, 106, 107, 108, 109, 110, 111, 112]⟩, ⟨22, false, false, []⟩, ⟨23, true, false, [97, 98, 99, 100, 101, 102, 108, 109, 110, 111, 112]⟩, ⟨24, true, false, [97, 109, 110, 111, 112]⟩, ⟨25, true, true, [110, 111, 112]⟩, ⟨26, false, false, []⟩, ⟨27, false, false, []⟩, ⟨28, false, false, []⟩] (by kernel_rfl) ?_
            obtain rfl | rfl | rfl : q = 0 ∨ q = 1 ∨ q = 2 := by omega
            (
                                        · rw [hmL]
                                          (repeat (first | refine gos (k := ?_) | refine fun (_ : _ = false) => ?_ | refine ⟨fun (_ : true = true) => ?_, fun h => absurd h (by decide)⟩ | refine gtr (k := ?_)))
                                          (try rw [hdp])
                                          (repeat (first | refine gos (k := ?_) | refine fun (_ : _ = false) => ?_ | refine ⟨fun (_ : true = true) => ?_, fun h => absurd h (by decide)⟩ | refine gtr (k := ?_)))
                                          conv => whnf
                                          refine And.intro (fun hG => And.intro (by (repeat' apply And.intro) <;> first | exact hG | exact trivial | exact rfl | exact .inl rfl | exact Nat.le_of_ble_eq_true rfl | omega | (simp [gpOs, gpO, gpA, getA, getL, opnds, okU]; done)) ?_) (fun h => absurd ⟨rfl, rfl⟩ h)
                                          rw [show List.map (fun n : Int => UInt8.ofNat n.toNat) [(((m + 1 : Nat) : Int) - 1) % 256, (((m + 1 : Nat) : Int) - 1) % 256] = rVal m from congrArg (fun x => [UInt8.ofNat x, UInt8.ofNat x]) (by omega)]
                                          (repeat (first | refine gos (k := ?_) | refine fun (_ : _ = false) => ?_ | refine ⟨fun (_ : true = true) => ?_, fun h => absurd h (by decide)⟩ | refine gtr (k := ?_)))
                                          refine gcl (hA := fun hG => ⟨trivial, hG, trivial, trivial⟩) (k := ?_)
                                          refine cmks (same_pl ps u (rVal m) (rVal m) hu (by show 2 ≤ 140737488355328; decide) (an := 2) (bn := 2) rfl rfl (t := true) (by simp) (4 + (v' 75 + 1)) (v' 108 + 1)) Tryd.call9 2 [75, 108] [0, 0] [] ?_
                                          (repeat (first | refine gos (k := ?_) | refine fun (_ : _ = false) => ?_ | refine ⟨fun (_ : true = true) => ?_, fun h => absurd h (by decide)⟩ | refine gtr (k := ?_)))
                                          refine back_at 1 (by omega) (by show 3 - 1 < 3 - (1 - 1); decide) ?_ ?_
                                          · ((try dsimp only [lpS, anyT, putT, setL]); (repeat (refine And.intro (by first | exact trivial | exact rfl) ?_)); (first | exact trivial | skip))
                                          · ((try dsimp only [lpS, deadH, putH, setL, Nat.reduceAdd, Nat.zero_add]); (repeat (refine And.intro (by first | exact rfl | exact trivial) ?_)); (first | exact trivial | skip)))
            (
                                        · rw [hmL]
                                          (repeat (first | refine gos (k := ?_) | refine fun (_ : _ = false) => ?_ | refine ⟨fun (_ : true = true) => ?_, fun h => absurd h (by decide)⟩ | refine gtr (k := ?_)))
                                          (try rw [hdp])
                                          (repeat (first | refine gos (k := ?_) | refine fun (_ : _ = false) => ?_ | refine ⟨fun (_ : true = true) => ?_, fun h => absurd h (by decide)⟩ | refine gtr (k := ?_)))
                                          conv => whnf
                                          refine And.intro (fun hG => And.intro (by (repeat' apply And.intro) <;> first | exact hG | exact trivial | exact rfl | exact .inl rfl | exact Nat.le_of_ble_eq_true rfl | omega | (simp [gpOs, gpO, gpA, getA, getL, opnds, okU]; done)) ?_) (fun h => absurd ⟨rfl, rfl⟩ h)
                                          rw [show List.map (fun n : Int => UInt8.ofNat n.toNat) [(((m + 1 : Nat) : Int) - 1) % 256, (((m + 1 : Nat) : Int) - 1) % 256] = rVal m from congrArg (fun x => [UInt8.ofNat x, UInt8.ofNat x]) (by omega)]
                                          (repeat (first | refine gos (k := ?_) | refine fun (_ : _ = false) => ?_ | refine ⟨fun (_ : true = true) => ?_, fun h => absurd h (by decide)⟩ | refine gtr (k := ?_)))
                                          refine gcl (hA := fun hG => ⟨trivial, hG, trivial, trivial⟩) (k := ?_)
                                          refine cmks (same_pl ps u (rVal m) (rVal m) hu (by show 2 ≤ 140737488355328; decide) (an := 2) (bn := 2) rfl rfl (t := true) (by simp) (4 + (v' 75 + 1)) (v' 108 + 1)) Tryd.call9 2 [75, 108] [0, 0] [] ?_
                                          (repeat (first | refine gos (k := ?_) | refine fun (_ : _ = false) => ?_ | refine ⟨fun (_ : true = true) => ?_, fun h => absurd h (by decide)⟩ | refine gtr (k := ?_)))
                                          refine back_at 2 (by omega) (by show 3 - 2 < 3 - (2 - 1); decide) ?_ ?_
                                          · ((try dsimp only [lpS, anyT, putT, setL]); (repeat (refine And.intro (by first | exact trivial | exact rfl) ?_)); (first | exact trivial | skip))
                                          · ((try dsimp only [lpS, deadH, putH, setL, Nat.reduceAdd, Nat.zero_add]); (repeat (refine And.intro (by first | exact rfl | exact trivial) ?_)); (first | exact trivial | skip)))
            (
                                        · rw [hmL]
                                          (repeat (first | refine gos (k := ?_) | refine fun (_ : _ = false) => ?_ | refine ⟨fun (_ : true = true) => ?_, fun h => absurd h (by decide)⟩ | refine gtr (k := ?_)))
                                          (try rw [hdp])
                                          (repeat (first | refine gos (k := ?_) | refine fun (_ : _ = false) => ?_ | refine ⟨fun (_ : true = true) => ?_, fun h => absurd h (by decide)⟩ | refine gtr (k := ?_)))
                                          conv => whnf
                                          refine And.intro (fun hG => And.intro (by (repeat' apply And.intro) <;> first | exact hG | exact trivial | exact rfl | exact .inl rfl | exact Nat.le_of_ble_eq_true rfl | omega | (simp [gpOs, gpO, gpA, getA, getL, opnds, okU]; done)) ?_) (fun h => absurd ⟨rfl, rfl⟩ h)
                                          rw [show List.map (fun n : Int => UInt8.ofNat n.toNat) [(((m + 1 : Nat) : Int) - 1) % 256, (((m + 1 : Nat) : Int) - 1) % 256] = rVal m from congrArg (fun x => [UInt8.ofNat x, UInt8.ofNat x]) (by omega)]
                                          (repeat (first | refine gos (k := ?_) | refine fun (_ : _ = false) => ?_ | refine ⟨fun (_ : true = true) => ?_, fun h => absurd h (by decide)⟩ | refine gtr (k := ?_)))
                                          refine gcl (hA := fun hG => ⟨trivial, hG, trivial, trivial⟩) (k := ?_)
                                          refine cmks (same_pl ps u (rVal m) (rVal m) hu (by show 2 ≤ 140737488355328; decide) (an := 2) (bn := 2) rfl rfl (t := true) (by simp) (4 + (v' 75 + 1)) (v' 108 + 1)) Tryd.call9 2 [75, 108] [0, 0] [] ?_
                                          (repeat (first | refine gos (k := ?_) | refine fun (_ : _ = false) => ?_ | refine ⟨fun (_ : true = true) => ?_, fun h => absurd h (by decide)⟩ | refine gtr (k := ?_)))
                                          refine back_at 3 (by omega) (by show 3 - 3 < 3 - (3 - 1); decide) ?_ ?_
                                          · ((try dsimp only [lpS, anyT, putT, setL]); (repeat (refine And.intro (by first | exact trivial | exact rfl) ?_)); (first | exact trivial | skip))
                                          · ((try dsimp only [lpS, deadH, putH, setL, Nat.reduceAdd, Nat.zero_add]); (repeat (refine And.intro (by first | exact rfl | exact trivial) ?_)); (first | exact trivial | skip)))
        · (repeat (first | refine gos (k := ?_) | refine fun (_ : _ = false) => ?_ | refine ⟨fun (_ : true = true) => ?_, fun h => absurd h (by decide)⟩ | refine gtr (k := ?_)))
          refine cmks (works9_vc) Tryd.call10 0 [] [] [] ?_
          (repeat (first | refine gos (k := ?_) | refine fun (_ : _ = false) => ?_ | refine ⟨fun (_ : true = true) => ?_, fun h => absurd h (by decide)⟩ | refine gtr (k := ?_)))
          exact ⟨_, rfl, rfl, trivial⟩
end Go.Proofs.YtebilmfljoiaeaaDoor
