/-
  OPERANDS, PLAINLY: which are ok, which are bits, whole numbers, real numbers. No program in this text.
-/
namespace DevP

def size (k : Int) : Int := if k = 3 then 64 else if k = 6 then 5 else if k = 4 ∨ k = 7 ∨ k = 8 ∨ k = 10 then 16 else if 1 ≤ k ∧ k ≤ 10 then 32 else 0

/-- an operand is ok -/
def ok (k n p : Int) : Bool :=
  if 1 ≤ k ∧ k ≤ 10 then decide (0 ≤ n ∧ n < size k ∧ p = 0)
  else if k = 11 then decide (-32768 ≤ n ∧ n ≤ 32767 ∧ p = 0)
  else if k = 12 then decide (-999999999 ≤ n ∧ n ≤ 999999999 ∧ 1 ≤ p ∧ p ≤ 6 ∧ (p = 1 ∨ n.tmod 10 ≠ 0))
  else if k = 13 then decide (0 ≤ n ∧ n ≤ 3 ∧ p = 0) else false
def isBit (k n p : Int) : Bool := ok k n p && decide (k = 1 ∨ k = 2 ∨ k = 3 ∨ k = 4 ∨ k = 6 ∨ k = 7 ∨ k = 8)
def isWhole (k n p : Int) : Bool := ok k n p && decide (k = 7 ∨ k = 8 ∨ k = 9 ∨ k = 11)
def isReal (k n p : Int) : Bool := ok k n p && decide (k = 10 ∨ k = 12 ∨ k = 13)

theorem ok_range {k n p : Int} (h : ok k n p = true) : 1 ≤ k ∧ k ≤ 13 := by
  unfold ok at h
  split at h
  · omega
  · split at h
    · omega
    · split at h
      · omega
      · split at h
        · omega
        · cases h
theorem ok_low {k : Int} (h : k < 1) (n p : Int) : ok k n p = false := by
  unfold ok; rw [if_neg (by omega), if_neg (by omega), if_neg (by omega), if_neg (by omega)]
theorem ok_high {k : Int} (h : 13 < k) (n p : Int) : ok k n p = false := by
  unfold ok; rw [if_neg (by omega), if_neg (by omega), if_neg (by omega), if_neg (by omega)]
theorem ok_dev {k : Int} (h : 1 ≤ k ∧ k ≤ 10) (n p : Int) : ok k n p = decide (0 ≤ n ∧ n < size k ∧ p = 0) := by
  unfold ok; rw [if_pos h]
theorem ok_int (n p : Int) : ok 11 n p = decide (-32768 ≤ n ∧ n ≤ 32767 ∧ p = 0) := rfl
theorem ok_dec (n p : Int) : ok 12 n p = decide (-999999999 ≤ n ∧ n ≤ 999999999 ∧ 1 ≤ p ∧ p ≤ 6 ∧ (p = 1 ∨ n.tmod 10 ≠ 0)) := rfl
theorem ok_word (n p : Int) : ok 13 n p = decide (0 ≤ n ∧ n ≤ 3 ∧ p = 0) := rfl
end DevP
