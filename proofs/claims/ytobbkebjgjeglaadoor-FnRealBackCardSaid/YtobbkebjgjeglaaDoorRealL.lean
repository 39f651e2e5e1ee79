/-
  A WHOLE NUMBER TIMES A POWER OF TWO, PLAINLY. No program in this text.
-/
import Derived.Test.YtobbkebjgjeglaaDoorRealP3
namespace RealL
open Fl RealP Go

theorem word_parts {s : Bool} {E F : Nat} (hE : E < 2047) (hF : F < 4503599627370496) : rung (word s (E * 4503599627370496 + F)) = E * 4503599627370496 + F ∧ neg (word s (E * 4503599627370496 + F)) = s ∧ word s (E * 4503599627370496 + F) < 18446744073709551616 := by
  refine ⟨rung_word s (by omega), neg_word s (by omega), ?_⟩
  unfold word
  split <;> omega
theorem val_EF {E F : Nat} (hE : 1 ≤ E) (hF : F < 4503599627370496) : val (E * 4503599627370496 + F) = (F + 4503599627370496) * p2 (E - 1) := by
  unfold val
  rw [if_neg (by omega), show (E * 4503599627370496 + F) % 4503599627370496 = F by omega, show (E * 4503599627370496 + F) / 4503599627370496 = E by omega, Nat.add_comm]
theorem mul_some {x y : Nat} (hx : rung x < 9218868437227405312) (hy : rung y < 9218868437227405312) : ∃ r, Ieee.double.mul x y = some r := by
  obtain ⟨m, p, e, _, _⟩ := read_fin hx
  obtain ⟨n, q, e', _, _⟩ := read_fin hy
  have h : (Ieee.double.mul x y).isSome = true := by
    unfold Ieee.Format.mul
    rw [e, e']
    rfl
  exact Option.isSome_iff_exists.1 h
/-- the fields of a whole number made real -/
structure Fields (b N : Nat) (s : Bool) : Prop where
  lt : b < 18446744073709551616
  fin : rung b < 9218868437227405312
  sg : neg b = s
  low : 1023 ≤ expo b
  high : expo b ≤ 1076
  val : (frac b + 4503599627370496) * p2 (expo b - 1) = N * p2 1074
theorem exp_le {K a c : Nat} (h1 : 4503599627370496 ≤ K) (h : K * p2 a ≤ p2 c) : 52 + a ≤ c := by
  rcases Nat.lt_or_ge c (52 + a) with h2 | h2
  · exfalso
    have h3 := p2_lt h2
    rw [p2_add, p2_52] at h3
    have h4 : 4503599627370496 * p2 a ≤ K * p2 a := Nat.mul_le_mul_right _ h1
    omega
  · exact h2
theorem fields_of {n : Int} (h0 : n ≠ 0) (h : n.natAbs ≤ 9007199254740992) : Fields (floatOfInt .f64 n) n.natAbs (decide (n < 0)) := by
  have hI := fo_is h
  have hb := fo_lt n
  have hr := hI.rung_
  generalize floatOfInt .f64 n = b at hI hb hr
  have hN : 1 ≤ n.natAbs := by omega
  have hE : expo b ≠ 0 := by
    intro e
    have h1 := val_sub e
    have h2 := frac_lt b
    rw [hr.2] at h1
    have h3 : 1 * p2 1074 ≤ n.natAbs * p2 1074 := Nat.mul_le_mul_right _ hN
    have h4 : p2 52 ≤ p2 1074 := p2_le (by omega)
    rw [p2_52] at h4
    omega
  have hv := val_nrm hE
  rw [hr.2] at hv
  have hF := frac_lt b
  refine ⟨hb, hr.1, hI.neg_, ?_, ?_, hv.symm⟩
  · rcases Nat.lt_or_ge (expo b) 1023 with h2 | h2
    · exfalso
      have h3 : (frac b + 4503599627370496) * p2 (expo b - 1) < p2 53 * p2 (expo b - 1) := by rw [p2_53]; exact (Nat.mul_lt_mul_right (p2_pos _)).2 (by omega)
      rw [← hv, ← p2_add] at h3
      have h4 : p2 (53 + (expo b - 1)) ≤ p2 1074 := p2_le (by omega)
      have h5 : 1 * p2 1074 ≤ n.natAbs * p2 1074 := Nat.mul_le_mul_right _ hN
      omega
    · exact h2
  · have h3 : n.natAbs * p2 1074 ≤ p2 53 * p2 1074 := Nat.mul_le_mul_right _ (by rw [p2_53]; exact h)
    rw [hv, ← p2_add] at h3
    have := exp_le (by omega) h3
    omega
/-- the product that ldexp ends with -/
theorem scale {K N E P C T : Nat} (h : K * p2 (E - 1) = N * p2 1074) (hp : P + C = E - 1 + T) : K * p2 P * p2 C = N * p2 T * p2 1074 := by
  rw [Nat.mul_assoc, ← p2_add, hp, p2_add, ← Nat.mul_assoc, h, Nat.mul_right_comm]
theorem one_is : Is 4607182418800017408 false (p2 1074) := by
  refine ⟨4607182418800017408, by omega, rfl, ?_⟩
  have := val_LK 1022 4503599627370496 (by omega) (by omega)
  rw [show (1022 * 4503599627370496 + 4503599627370496 : Nat) = 4607182418800017408 by omega] at this
  rw [this, ← p2_52, ← p2_add]
theorem small_is : Is 4368491638549381120 false (p2 1021) := by
  refine ⟨4368491638549381120, by omega, rfl, ?_⟩
  have := val_LK 969 4503599627370496 (by omega) (by omega)
  rw [show (969 * 4503599627370496 + 4503599627370496 : Nat) = 4368491638549381120 by omega] at this
  rw [this, ← p2_52, ← p2_add]
theorem ld_exact {b N c C E P T : Nat} {s : Bool} (h : Fields b N s) (hc : Is c false (p2 C)) (hE : 1 ≤ E ∧ E ≤ 2046) (hP : P = E - 1) (hp : P + C = expo b - 1 + T) (hr : Rep (N * p2 T)) :
    ∃ r, Ieee.double.mul c (word s (E * 4503599627370496 + frac b)) = some r ∧ Is r s (N * p2 T) := by
  have hF := frac_lt b
  obtain ⟨w1, w2, w3⟩ := word_parts (s := s) (show E < 2047 by omega) hF
  obtain ⟨r, h1, h2⟩ := mul_exact (v := N * p2 T) hc.rung_.1 (show rung (word s (E * 4503599627370496 + frac b)) < 9218868437227405312 by rw [w1]; omega) (by rw [hc.rung_.2, w1, val_EF hE.1 hF, Nat.mul_comm (p2 C), ← hP]; exact scale h.val hp) hr
  rw [hc.neg_, w2] at h2
  exact ⟨r, h1, by simpa using h2⟩
/-- where the product is a double, ldexp neither dies away nor overflows -/
theorem range_of {b N T : Nat} {s : Bool} (h : Fields b N s) (hr : Rep (N * p2 T)) : expo b + T ≤ 3120 := by
  have h1 := scale (P := expo b - 1) (C := T) (T := T) h.val rfl
  have h2 := hr.1
  have h3 : N * p2 T * p2 1074 ≤ p2 2098 * p2 1074 := Nat.mul_le_mul_right _ (Nat.le_of_lt h2)
  rcases Nat.lt_or_ge 3120 (expo b + T) with h4 | h4
  · exfalso
    rw [← h1, Nat.mul_assoc, ← p2_add] at h3
    have hl := h.low
    have h5 : 4503599627370496 * p2 (expo b - 1 + T) ≤ (frac b + 4503599627370496) * p2 (expo b - 1 + T) := Nat.mul_le_mul_right _ (by omega)
    have h6 : N * p2 T * p2 1074 < p2 2098 * p2 1074 := (Nat.mul_lt_mul_right (p2_pos _)).2 h2
    rw [← h1, Nat.mul_assoc, ← p2_add] at h6
    have h7 : p2 (2098 + 1074) ≤ p2 (52 + (expo b - 1 + T)) := p2_le (by omega)
    rw [p2_add 52, p2_52] at h7
    rw [← p2_add] at h6
    omega
  · exact h4
end RealL
namespace RealL
open Fl RealP Go
theorem i64_and_nat (a c : Nat) (ha : a < 9223372036854775808) (hc : c < 9223372036854775808) : bits .and .i64 (a : Int) (c : Int) = ((a &&& c : Nat) : Int) := by
  have hx : a &&& c < 2 ^ 63 := Nat.and_lt_two_pow _ (by omega)
  show IntKind.i64.wrap ((BitVec.ofInt 64 (a : Int) &&& BitVec.ofInt 64 (c : Int)).toNat : Int) = _
  rw [BitVec.toNat_and, ofInt_u64 a (by omega), ofInt_u64 c (by omega), IntKind.wrap_i64]
  omega
theorem and_expo_i {b : Nat} (h : b < 18446744073709551616) : bits .and .i64 ((b : Int) / 4503599627370496) 2047 = (expo b : Int) := by
  have e : (b : Int) / 4503599627370496 = ((b / 4503599627370496 : Nat) : Int) := by rw [Int.natCast_ediv]; rfl
  rw [e, show (2047 : Int) = ((2047 : Nat) : Int) from rfl, i64_and_nat _ _ (by omega) (by omega)]
  congr 1
  exact Nat.and_two_pow_sub_one_eq_mod _ 11
theorem b_word {b : Nat} (h : b < 18446744073709551616) : b / 9223372036854775808 % 2 * 9223372036854775808 + b % 4503599627370496 = word (neg b) (frac b) := by
  unfold word neg frac
  have h1 : b / 9223372036854775808 = 0 ∨ b / 9223372036854775808 = 1 := by omega
  rcases h1 with h1 | h1 <;> rw [h1] <;> simp
theorem andNot_expo {b : Nat} (h : b < 18446744073709551616) : bits .andNot .u64 (b : Int) 9218868437227405312 = ((word (neg b) (frac b) : Nat) : Int) := by
  rw [show (9218868437227405312 : Int) = ((9218868437227405312 : Nat) : Int) from rfl, u64_andNot_nat _ _ h (by omega)]
  congr 1
  rw [show (18446744073709551615 - 9218868437227405312 : Nat) = 2 ^ 63 ||| 4503599627370495 by decide, Nat.and_or_distrib_left, nat_bit, show b &&& 4503599627370495 = b % 4503599627370496 from Nat.and_two_pow_sub_one_eq_mod b 52, nat_join 63 _ _ (by omega) (by omega), ← b_word h]
theorem or_expo {s : Bool} {E F : Nat} (hE : E < 2048) (hF : F < 4503599627370496) : word s F ||| (E * 4503599627370496) = word s (E * 4503599627370496 + F) := by
  have h0 : F ||| E * 4503599627370496 = E * 4503599627370496 + F := by
    rw [Nat.or_comm, nat_join 52 _ _ (by omega) (by omega)]
  cases s with
  | false => exact h0
  | true =>
    show (9223372036854775808 + F) ||| (E * 4503599627370496) = 9223372036854775808 + (E * 4503599627370496 + F)
    rw [← nat_join 63 9223372036854775808 F (by decide) (by omega), Nat.or_assoc, h0, nat_join 63 _ _ (by decide) (by omega)]
theorem or_expo_u {s : Bool} {E F : Nat} {z : Int} (hz : z = ((E * 4503599627370496 : Nat) : Int)) (hE : E < 2048) (hF : F < 4503599627370496) : bits .or .u64 ((word s F : Nat) : Int) z = ((word s (E * 4503599627370496 + F) : Nat) : Int) := by
  have h1 : word s F < 18446744073709551616 := by unfold word; split <;> omega
  rw [hz, u64_or_nat _ _ h1 (by omega), or_expo hE hF]
end RealL
