/- Walks of lintellaw08: what is done with a bank; BankApart. Conditions: none. -/
import Derived.Test.YtddocchgikaahaaDoorBk20
import Derived.Test.YtddocchgikaahaaDoorBp11
namespace Go.Proofs.YtddocchgikaahaaDoor
open Go.RowKit
set_option linter.unusedVariables false
set_option linter.unusedSimpArgs false
set_option maxRecDepth 100000
set_option maxHeartbeats 1500000
theorem head_bnd (s : FlS) (a : Nat) : 0 ≤ (s.head a).1 ∧ (s.head a).1 ≤ 4294967295 := by
  unfold FlS.head
  split
  · exact ⟨by simp, by simp⟩
  split
  · have := numB_lt ((((s.l.drop (a * s.k)).take 16).drop 4).take 4)
    have hl : ((((s.l.drop (a * s.k)).take 16).drop 4).take 4).length ≤ 4 := by rw [List.length_take]; omega
    have h2 : 256 ^ ((((s.l.drop (a * s.k)).take 16).drop 4).take 4).length ≤ 256 ^ 4 := Nat.pow_le_pow_right (by decide) hl
    simp only
    omega
  · exact ⟨by simp, by simp⟩
theorem does8_vc {W : Int} {n k : Nat} (s : FlS) (a c : Nat) (g : Goes W n k s) (hW : W ≤ 8000000000000000000) (hc : c ≤ 8) (p : Lies n k a c) (o : OpB) (ho : OpBOk o) (hr : o.K ≠ 8) (z vb v0 v1 : Nat) : Spec Tryd.prog 28 [.ref 1 v0 6 0 0, .ref 0 vb 3 0 0, .agg (opB z o)] [⟨vb, .obj [.ref 1 v0 6 0 0, .val (.int .i64 (a : Int)), .val (.int .i64 (c : Int))]⟩, ⟨v0, .obj [.own 2 v1 1 0 s.l.length, .val (.int .i64 (s.k : Int)), .val (.int .i64 s.ar), .val (.int .i64 s.pt), .val (.bool s.dd), .val (.int .i64 s.wr)]⟩, ⟨v1, .bytes s.l⟩]
   (pms .any [⟨vb, .obj [.ref 1 v0 6 0 0, .val (.int .i64 (a : Int)), .val (.int .i64 (c : Int))]⟩, ⟨v0, .obj [.own 2 v1 1 0 (doesB s a c o).l.length, .val (.int .i64 ((doesB s a c o).k : Int)), .val (.int .i64 (doesB s a c o).ar), .val (.int .i64 (doesB s a c o).pt), .val (.bool (doesB s a c o).dd), .val (.int .i64 (doesB s a c o).wr)]⟩, ⟨v1, .bytes (doesB s a c o).l⟩] []) := by
  obtain ⟨K, m, q, key, val⟩ := o
  have hmm := ho.n
  have hp := ho.p
  have hk := ho.key
  have hv := ho.val
  simp only at hmm hp hk hv hr
  refine spec_forget ?_
  refine spec_entry tbOk Tryd.func28 rfl Tryd.ntmps28 Tryd.results28 ?_
  unfold opB
  by_cases k0 : K = 0
  · subst k0
    (
                                        unfold doesB
                                        repeat first | rw [if_pos rfl] | rw [if_neg (by decide)])
    (repeat (first | refine gos (k := ?_) | refine fun (_ : _ = false) => ?_ | refine ⟨fun (_ : true = true) => ?_, fun h => absurd h (by decide)⟩ | refine gtr (k := ?_)))
    refine cmks (format_vc s a c g (by omega) p (m % 4294967296 % 4294967296) (by omega) vb v0 v1) Tryd.call12 3 [0, 1, 2] [0, 0, 0] [] ?_
    (repeat (first | refine gos (k := ?_) | refine fun (_ : _ = false) => ?_ | refine ⟨fun (_ : true = true) => ?_, fun h => absurd h (by decide)⟩ | refine gtr (k := ?_)))
    exact ⟨_, rfl⟩
  by_cases k1 : K = 1
  · subst k1
    (
                                        unfold doesB
                                        repeat first | rw [if_pos rfl] | rw [if_neg (by decide)])
    (repeat (first | refine gos (k := ?_) | refine fun (_ : _ = false) => ?_ | refine ⟨fun (_ : true = true) => ?_, fun h => absurd h (by decide)⟩ | refine gtr (k := ?_)))
    refine cmks (ready_vc s a c g (by omega) p vb v0 v1) Tryd.call13 3 [0, 1, 2] [0, 0, 0] [] ?_
    (repeat (first | refine gos (k := ?_) | refine fun (_ : _ = false) => ?_ | refine ⟨fun (_ : true = true) => ?_, fun h => absurd h (by decide)⟩ | refine gtr (k := ?_)))
    exact ⟨_, rfl⟩
  by_cases k2 : K = 2
  · subst k2
    (
                                        unfold doesB
                                        repeat first | rw [if_pos rfl] | rw [if_neg (by decide)])
    (repeat (first | refine gos (k := ?_) | refine fun (_ : _ = false) => ?_ | refine ⟨fun (_ : true = true) => ?_, fun h => absurd h (by decide)⟩ | refine gtr (k := ?_)))
    refine cmks (bhead_vc s a c g p vb v0 v1) Tryd.call19 3 [0, 1, 2] [0, 0, 0] [] ?_
    have hH := head_bnd s a
    generalize s.head a = H at hH
    (repeat (first | refine gos (k := ?_) | refine fun (_ : _ = false) => ?_ | refine ⟨fun (_ : true = true) => ?_, fun h => absurd h (by decide)⟩ | refine gtr (k := ?_)))
    exact ⟨_, rfl⟩
  by_cases k3 : K = 3
  · subst k3
    (
                                        unfold doesB
                                        repeat first | rw [if_pos rfl] | rw [if_neg (by decide)])
    (repeat (first | refine gos (k := ?_) | refine fun (_ : _ = false) => ?_ | refine ⟨fun (_ : true = true) => ?_, fun h => absurd h (by decide)⟩ | refine gtr (k := ?_)))
    rcases Bool.eq_false_or_eq_true s.dd with hd | hd
    · refine cmks (Scan_dead s a c g p hd vb v0 v1) Tryd.call30 3 [0, 1, 2] [0, 0, 0] [] ?_
      (repeat (first | refine gos (k := ?_) | refine fun (_ : _ = false) => ?_ | refine ⟨fun (_ : true = true) => ?_, fun h => absurd h (by decide)⟩ | refine gtr (k := ?_)))
      refine cmks (records_nil) Tryd.call40 0 [] [] [] ?_
      (repeat (first | refine gos (k := ?_) | refine fun (_ : _ = false) => ?_ | refine ⟨fun (_ : true = true) => ?_, fun h => absurd h (by decide)⟩ | refine gtr (k := ?_)))
      exact ⟨_, rfl⟩
    · have hsb := scan_bound (s.bank a c) _ 16 rfl
      have hbl := bank_len g p
      have hgl := g.len
      have hpf := p.fit
      have hll := g.l
      rw [show scanG (s.bank a c) 16 = s.scan a c from rfl] at hsb
      obtain ⟨hs1, hs2⟩ := hsb
      have hsc := Scan_live s a c g p hd (s.scan a c).1.length rfl vb v0 v1
      generalize s.scan a c = S at *
      obtain ⟨l, e, b⟩ := S
      simp only at hs1 hs2 hsc
      refine cmks (hsc) Tryd.call30 (he := ⟨fun _ => ⟨rfl, rfl, trivial, trivial⟩, trivial, trivial⟩) 3 [0, 1, 2, 0, 0, 0, 0, 0, 0, 0, 0, 0, 0, 50, 49] [0, 0, 0, 0, 0, 0, 0, 0, 0, 0, 0, 0, 0, 1, 1] [13, 14] ?_
      (repeat (first | refine gos (k := ?_) | refine fun (_ : _ = false) => ?_ | refine ⟨fun (_ : true = true) => ?_, fun h => absurd h (by decide)⟩ | refine gtr (k := ?_)))
      refine cmks (records_vc l (fun c hc => ⟨by have := (hs1 c hc).1; omega, by have := (hs1 c hc).2; omega⟩) (by omega) (l.length + 3) 3 l.length rfl) Tryd.call40 (hrows := ⟨⟨fun _ => ⟨Nat.lt_succ_self 1, Nat.lt_succ_self 1, trivial, trivial⟩, rfl⟩, ⟨trivial, rfl⟩, trivial⟩) (hr2 := ⟨fun _ => ⟨rfl, rfl, trivial, trivial⟩, trivial, trivial⟩) (he := ⟨fun _ => ⟨rfl, rfl, trivial, trivial⟩, trivial, trivial⟩) 2 [50, 49, 0, 0, 0, 0, 0, 0, 0, 0, 0, 0, 0, 0, 0, 0, 0, 0, 0, 0, 0, 0, 0, 0, 0, 0, 0, 0, 0, 0, 0, 0, 0, 0, 0, 57, 0, 0, 0, 0, 0, 0, 0, 0, 0, 0, 0, 0, 0, 0, 0, 0, 0, 0, 0, 0, 0, 0, 0, 0, 0, 0, 0, 0, 0, 0, 0, 0, 0, 0, 56] [0, 0, 0, 0, 0, 0, 0, 0, 0, 0, 0, 0, 0, 0, 0, 0, 0, 0, 0, 0, 0, 0, 0, 0, 0, 0, 0, 0, 0, 0, 0, 0, 0, 0, 0, 1, 0, 0, 0, 0, 0, 0, 0, 0, 0, 0, 0, 0, 0, 0, 0, 0, 0, 0, 0, 0, 0, 0, 0, 0, 0, 0, 0, 0, 0, 0, 0, 0, 0, 0, 1] [35, 70] ?_
      (repeat (first | refine gos (k := ?_) | refine fun (_ : _ = false) => ?_ | refine ⟨fun (_ : true = true) => ?_, fun h => absurd h (by decide)⟩ | refine gtr (k := ?_)))
      exact ⟨_, rfl⟩
  by_cases k4 : K = 4
  · subst k4
    (
                                        unfold doesB
                                        repeat first | rw [if_pos rfl] | rw [if_neg (by decide)])
    (repeat (first | refine gos (k := ?_) | refine fun (_ : _ = false) => ?_ | refine ⟨fun (_ : true = true) => ?_, fun h => absurd h (by decide)⟩ | refine gtr (k := ?_)))
    refine cmks (twin8_vc z key hk) Tryd.call16 0 [0, 0, 0, 66] [0, 0, 0, 1] [3] ?_
    (repeat (first | refine gos (k := ?_) | refine fun (_ : _ = false) => ?_ | refine ⟨fun (_ : true = true) => ?_, fun h => absurd h (by decide)⟩ | refine gtr (k := ?_)))
    refine cmks (twin8_vc z val hv) Tryd.call16 0 [0, 0, 0, 69] [0, 0, 0, 1] [3] ?_
    (repeat (first | refine gos (k := ?_) | refine fun (_ : _ = false) => ?_ | refine ⟨fun (_ : true = true) => ?_, fun h => absurd h (by decide)⟩ | refine gtr (k := ?_)))
    refine cmks (add_own s a c g (by omega) p key val key.length val.length rfl rfl (by omega) (by omega) vb v0 v1 3 3) Tryd.call15 5 [0, 1, 2, 66, 69] [0, 0, 0, 0, 0] [] ?_
    (repeat (first | refine gos (k := ?_) | refine fun (_ : _ = false) => ?_ | refine ⟨fun (_ : true = true) => ?_, fun h => absurd h (by decide)⟩ | refine gtr (k := ?_)))
    (refine sts (k := ?_))
    refine draw_of (p := 0) tbOk hm [0, 0, 0, 4, 14, 30, 62, 62, 190, 510, 1022, 1023, 4095] [⟨0, true, false, [76, 77, 78, 79, 80, 81, 82, 83, 84, 85, 7]⟩, ⟨1, false, false, []⟩, ⟨2, true, false, [75, 76, 78, 79, 80, 81, 82, 83, 84, 85, 7]⟩, ⟨3, true, false, [75, 76, 79, 80, 81, 82, 83, 84, 85, 7]⟩, ⟨4, true, false, [75, 80, 81, 82, 83, 84, 85, 7]⟩, ⟨5, false, false, []⟩, ⟨6, false, false, []⟩, ⟨7, true, false, [75, 81, 83, 84, 85, 7]⟩, ⟨8, true, false, [75, 81, 84, 85, 7]⟩, ⟨9, true, false, [75, 85, 7]⟩, ⟨10, false, false, []⟩, ⟨11, true, true, [85, 7]⟩, ⟨12, false, false, []⟩] (by kernel_rfl) ?_
    (repeat (first | refine gos (k := ?_) | refine fun (_ : _ = false) => ?_ | refine ⟨fun (_ : true = true) => ?_, fun h => absurd h (by decide)⟩ | refine gtr (k := ?_)))
    refine cmks (same_own_bs key key key.length rfl hk 3 z) Tryd.call22 1 [66] [0] [] ?_
    rw [decide_eq_true (rfl : key = key)]
    (repeat (first | refine gos (k := ?_) | refine fun (_ : _ = false) => ?_ | refine ⟨fun (_ : true = true) => ?_, fun h => absurd h (by decide)⟩ | refine gtr (k := ?_)))
    refine cmks (same_own_bs val val val.length rfl hv 3 z) Tryd.call22 1 [69] [0] [] ?_
    rw [decide_eq_true (rfl : val = val)]
    (repeat (first | refine gos (k := ?_) | refine fun (_ : _ = false) => ?_ | refine ⟨fun (_ : true = true) => ?_, fun h => absurd h (by decide)⟩ | refine gtr (k := ?_)))
    exact ⟨_, rfl⟩
  by_cases k5 : K = 5
  · subst k5
    (
                                        unfold doesB
                                        repeat first | rw [if_pos rfl] | rw [if_neg (by decide)])
    (repeat (first | refine gos (k := ?_) | refine fun (_ : _ = false) => ?_ | refine ⟨fun (_ : true = true) => ?_, fun h => absurd h (by decide)⟩ | refine gtr (k := ?_)))
    refine cmks (kill_vc s a c g (by omega) p m hmm vb v0 v1) Tryd.call26 3 [0, 1, 2] [0, 0, 0] [] ?_
    (repeat (first | refine gos (k := ?_) | refine fun (_ : _ = false) => ?_ | refine ⟨fun (_ : true = true) => ?_, fun h => absurd h (by decide)⟩ | refine gtr (k := ?_)))
    exact ⟨_, rfl⟩
  by_cases k6 : K = 6
  · subst k6
    (
                                        unfold doesB
                                        repeat first | rw [if_pos rfl] | rw [if_neg (by decide)])
    (repeat (first | refine gos (k := ?_) | refine fun (_ : _ = false) => ?_ | refine ⟨fun (_ : true = true) => ?_, fun h => absurd h (by decide)⟩ | refine gtr (k := ?_)))
    refine cdet (spec_arm s m q hmm hp v0 v1) Tryd.call24 [1, 2] ?_
    (repeat (first | refine gos (k := ?_) | refine fun (_ : _ = false) => ?_ | refine ⟨fun (_ : true = true) => ?_, fun h => absurd h (by decide)⟩ | refine gtr (k := ?_)))
    exact ⟨_, rfl⟩
  by_cases k7 : K = 7
  · subst k7
    (
                                        unfold doesB
                                        repeat first | rw [if_pos rfl] | rw [if_neg (by decide)])
    (repeat (first | refine gos (k := ?_) | refine fun (_ : _ = false) => ?_ | refine ⟨fun (_ : true = true) => ?_, fun h => absurd h (by decide)⟩ | refine gtr (k := ?_)))
    refine cdet (spec_on s v0 v1) Tryd.call25 [1, 2] ?_
    (repeat (first | refine gos (k := ?_) | refine fun (_ : _ = false) => ?_ | refine ⟨fun (_ : true = true) => ?_, fun h => absurd h (by decide)⟩ | refine gtr (k := ?_)))
    exact ⟨_, rfl⟩
  have hE : doesB s a c ⟨K, m, q, key, val⟩ = s := by
    unfold doesB
    simp only
    rw [if_neg k0, if_neg k1, if_neg k4, if_neg k5, if_neg k6, if_neg k7]
  rw [hE]
  (repeat (first | refine gos (k := ?_) | refine fun (_ : _ = false) => ?_ | refine ⟨fun (_ : true = true) => ?_, fun h => absurd h (by decide)⟩ | refine gtr (k := ?_)))
  exact ⟨_, rfl⟩
end Go.Proofs.YtddocchgikaahaaDoor
