/- A store: the bank that counts, its records, the last one of each key, and what is done with it: plain definitions. Conditions: none. -/
import Derived.Test.YtebilmfljoiaeaaDoorBn0
namespace Go.Proofs.YtebilmfljoiaeaaDoor
set_option linter.unusedVariables false
set_option linter.unusedSimpArgs false
/-- the place of the last living record of a key among the first n; -1: there is none -/
def lastI (l : List RK) (key : List UInt8) : Nat → Int
  | 0 => -1
  | n + 1 => if (l.getD n rk0).lv = true ∧ (l.getD n rk0).key = key then (n : Int) else lastI l key n
def lastK (l : List RK) (key : List UInt8) : Int := lastI l key l.length
theorem lastI_lt (l : List RK) (key : List UInt8) : ∀ n : Nat, -1 ≤ lastI l key n ∧ lastI l key n < n
  | 0 => by simp [lastI]
  | n + 1 => by
    have := lastI_lt l key n
    unfold lastI
    split <;> omega
/-- does a record belong to the store? -/
def keepB (l : List RK) (j : Nat) : Bool := decide (lastK l (l.getD j rk0).key = (j : Int))
def keptI (l : List RK) (n : Nat) : List Nat := (List.range n).filter (keepB l)
def keptK (l : List RK) : List RK := (keptI l l.length).map fun j => l.getD j rk0
theorem keptI_succ (l : List RK) (n : Nat) : keptI l (n + 1) = keptI l n ++ if keepB l n then [n] else [] := by
  unfold keptI
  rw [List.range_succ, List.filter_append]
  congr 1
  cases h : keepB l n <;> simp [h]
theorem keptI_len (l : List RK) (n : Nat) : (keptI l n).length ≤ n := by
  have := List.length_filter_le (keepB l) (List.range n)
  simpa [keptI] using this
/-- what records need -/
def usedK : List RK → Nat
  | [] => 0
  | r :: l => 12 + r.key.length + r.val.length + usedK l
/-- which bank counts, its generation, whether there is one; c: the sectors of a bank -/
def FlS.cnt (s : FlS) (c : Nat) : Nat × Int × Bool := if (s.head c).2.1 = true ∧ ((s.head 0).2.1 = false ∨ (s.head 0).1 < (s.head c).1) then (1, (s.head c).1, (s.head c).2.1) else (0, (s.head 0).1, (s.head 0).2.1)
/-- the records of the bank that counts -/
def FlS.recs (s : FlS) (c : Nat) : List Rc × Nat × Bool := s.scan ((s.cnt c).1 * c) c
def FlS.recK (s : FlS) (c : Nat) : List RK := (s.recs c).1.map rkOf
/-- records are added, as long as it goes -/
def FlS.adds (s : FlS) (a c : Nat) : List RK → Int × FlS
  | [] => (0, s)
  | r :: l => if (s.add a c r.key r.val).1 = 0 then (s.add a c r.key r.val).2.adds a c l else s.add a c r.key r.val
/-- a bank begun with records -/
def FlS.bgn (s : FlS) (a c : Nat) (g : Int) (l : List RK) : Int × FlS :=
  if (s.format a c g).1 = 0 then
    if ((s.format a c g).2.adds a c l).1 = 0 then ((s.format a c g).2.adds a c l).2.prog ((a : Int) * (((s.format a c g).2.adds a c l).2.k : Int) + 12) [254]
    else (s.format a c g).2.adds a c l
  else s.format a c g
def FlS.copy (s : FlS) (c : Nat) (l : List RK) : Int × FlS := if (s.cnt c).2.1 = 4294967295 then (12, s) else s.bgn ((1 - (s.cnt c).1) * c) c ((s.cnt c).2.1 + 1) l
/-- records that were superseded are killed, from the k-th on; m: how many are left -/
def FlS.tidyL (s : FlS) (a c : Nat) (l : List RK) (k : Nat) : Nat → Int × FlS
  | 0 => (0, s)
  | m + 1 => if (l.getD k rk0).lv = true ∧ lastK l (l.getD k rk0).key ≠ (k : Int) then
      if (s.kill a c (k : Int)).1 = 0 then (s.kill a c (k : Int)).2.tidyL a c l (k + 1) m else s.kill a c (k : Int)
    else s.tidyL a c l (k + 1) m
def FlS.tidy (s : FlS) (c : Nat) : Int × FlS := if s.dd then (6, s) else s.tidyL ((s.cnt c).1 * c) c (s.recK c) 0 (s.recK c).length
/-- a record is added, and the one of that key ahead of it killed -/
def FlS.put (s : FlS) (c : Nat) (key val : List UInt8) : Int × FlS :=
  if (s.add ((s.cnt c).1 * c) c key val).1 = 0 then
    if 0 ≤ lastK (s.recK c) key then (s.add ((s.cnt c).1 * c) c key val).2.kill ((s.cnt c).1 * c) c (lastK (s.recK c) key)
    else (0, (s.add ((s.cnt c).1 * c) c key val).2)
  else s.add ((s.cnt c).1 * c) c key val
def FlS.set (s : FlS) (c : Nat) (key val : List UInt8) : Int × FlS :=
  if key.length < 1 ∨ 255 < key.length ∨ 65536 < val.length then (1, s)
  else if s.dd then (6, s)
  else if (c : Int) * s.k - 16 < usedK (keptK (s.recK c)) + (12 + key.length + val.length) then (5, s)
  else if (s.recs c).2.2 = false ∨ (c : Int) * s.k - 16 + 16 - ((s.recs c).2.1 : Int) < 12 + key.length + val.length then
    if (s.copy c (keptK (s.recK c))).1 = 0 then
      if (s.copy c (keptK (s.recK c))).2.dd then (6, (s.copy c (keptK (s.recK c))).2) else (s.copy c (keptK (s.recK c))).2.put c key val
    else s.copy c (keptK (s.recK c))
  else s.put c key val
def FlS.del (s : FlS) (c : Nat) (key : List UInt8) : Int × FlS :=
  if s.dd then (6, s) else if lastK (s.recK c) key < 0 then (3, s) else s.kill ((s.cnt c).1 * c) c (lastK (s.recK c) key)
/-- the store of a flash is opened -/
def FlS.opn (s : FlS) (c : Nat) : Int × FlS :=
  if s.dd then (6, s)
  else if (s.cnt c).2.2 = false then
    if (s.bgn 0 c 1 []).1 = 0 then (s.bgn 0 c 1 []).2.tidy c else s.bgn 0 c 1 []
  else s.tidy c
end Go.Proofs.YtebilmfljoiaeaaDoor
