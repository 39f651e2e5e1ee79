/-
  A REAL NUMBER'S TEXT, PLAINLY, ON: the fields of its word. No program in this text.
-/
import Derived.Test.YtobbkebjgjeglaaDoorRealP
import Derived.Test.YtobbkebjgjeglaaDoorFlo3
import Derived.Laws.BitsAllLaws
namespace RealP
open Fl ItoP Go

def expo (b : Nat) : Nat := b / 4503599627370496 % 2048
def frac (b : Nat) : Nat := b % 4503599627370496
theorem rung_parts (b : Nat) : rung b = expo b * 4503599627370496 + frac b := by unfold rung expo frac; omega
theorem expo_lt (b : Nat) : expo b < 2048 := by unfold expo; omega
theorem frac_lt (b : Nat) : frac b < 4503599627370496 := by unfold frac; omega
theorem and_expo {b : Nat} (h : b < 18446744073709551616) : bits .and .u64 ((b : Int) / 4503599627370496) 2047 = (expo b : Int) := by
  have e : (b : Int) / 4503599627370496 = ((b / 4503599627370496 : Nat) : Int) := by rw [Int.natCast_ediv]; rfl
  rw [e, show (2047 : Int) = ((2047 : Nat) : Int) from rfl, u64_and_nat _ _ (by omega) (by omega)]
  congr 1
  exact Nat.and_two_pow_sub_one_eq_mod _ 11
theorem and_frac {b : Nat} (h : b < 18446744073709551616) : bits .and .u64 (b : Int) 4503599627370495 = (frac b : Int) := by
  rw [show (4503599627370495 : Int) = ((4503599627370495 : Nat) : Int) from rfl, u64_and_nat _ _ (by omega) (by omega)]
  congr 1
  exact Nat.and_two_pow_sub_one_eq_mod _ 52
theorem or_frac (b : Nat) : bits .or .u64 (frac b : Int) 4503599627370496 = ((frac b + 4503599627370496 : Nat) : Int) := by
  have := frac_lt b
  rw [show (4503599627370496 : Int) = ((4503599627370496 : Nat) : Int) from rfl, u64_or_nat _ _ (by omega) (by omega)]
  congr 1
  rw [Nat.or_comm, nat_join 52 _ _ (by decide) (by omega)]
  omega
theorem and_one {n : Nat} (h : n < 18446744073709551616) : bits .and .u64 (n : Int) 1 = ((n % 2 : Nat) : Int) := by
  rw [show (1 : Int) = ((1 : Nat) : Int) from rfl, u64_and_nat _ _ h (by omega)]
  congr 1
  exact nat_mask1 n
theorem sign_bit {b : Nat} (h : b < 18446744073709551616) : ((b : Int) / 9223372036854775808 == 1) = neg b := by
  have e : (b : Int) / 9223372036854775808 = ((b / 9223372036854775808 : Nat) : Int) := by rw [Int.natCast_ediv]; rfl
  rw [e]
  unfold neg
  have h1 : b / 9223372036854775808 < 2 := by omega
  rw [Nat.mod_eq_of_lt h1, Bool.eq_iff_iff, beq_iff_eq, beq_iff_eq]
  omega
theorem val_sub {b : Nat} (h : expo b = 0) : val (rung b) = frac b := by
  have := frac_lt b
  rw [rung_parts, h]
  unfold val
  rw [if_pos (by omega)]
  omega
theorem val_nrm {b : Nat} (h : expo b ≠ 0) : val (rung b) = (frac b + 4503599627370496) * p2 (expo b - 1) := by
  have := frac_lt b
  have := expo_lt b
  rw [rung_parts]
  unfold val
  rw [if_neg (by omega), show (expo b * 4503599627370496 + frac b) % 4503599627370496 = frac b by omega, show (expo b * 4503599627370496 + frac b) / 4503599627370496 = expo b by omega, Nat.add_comm]
theorem nan_iff (b : Nat) : isNaN b ↔ (expo b = 2047 ∧ frac b ≠ 0) := by
  have := frac_lt b
  have := expo_lt b
  unfold isNaN
  rw [rung_parts]
  omega
theorem inf_iff (b : Nat) : rung b = 9218868437227405312 ↔ (expo b = 2047 ∧ frac b = 0) := by
  have := frac_lt b
  have := expo_lt b
  rw [rung_parts]
  omega
theorem zero_iff (b : Nat) : rung b = 0 ↔ (expo b = 0 ∧ frac b = 0) := by
  rw [rung_parts]
  omega
/-- what a loop of halvings leaves -/
theorem halves {v n t : Nat} (h : n * p2 t = v) (h2 : n % 2 = 0) : n / 2 * p2 (t + 1) = v := by
  rw [p2_succ, ← h, ← Nat.mul_assoc, Nat.mul_right_comm, show n / 2 * 2 = n by omega]
theorem num_of {v n t : Nat} (h : n * p2 t = v) (h2 : n % 2 = 1) : num v = (itoaB (n : Int) ++ star) ++ itoaB ((t : Int) - 1074) := num_at h.symm h2
end RealP
