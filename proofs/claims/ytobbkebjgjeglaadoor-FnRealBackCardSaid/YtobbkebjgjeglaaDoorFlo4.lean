/-
  CUTTING A DOUBLE TOWARDS ZERO: math.Trunc, and the conversion to an integer. No program in this text.
-/
import Derived.Test.YtobbkebjgjeglaaDoorFlo3
namespace Fl
open Go

/-- the whole number that is left of a finite double, cut towards zero -/
def cutN (b : Nat) : Nat := val (rung b) / p2 1074
def cutI (b : Nat) : Int := if neg b then -(cutN b : Int) else cutN b

theorem cut_zero (s : Bool) (n d : Nat) : Ieee.Toward.zero.cut s n d = n / p2 d := by
  unfold Ieee.Toward.cut
  simp only [Nat.shiftLeft_eq, Nat.one_mul, ← p2_eq, Bool.toNat_false, Nat.add_zero]
  by_cases h : d ≤ n.log2 + 2
  · rw [Nat.min_eq_left h]
  · have hn := log2_lt n
    have h2 : n < p2 (n.log2 + 2) := by rw [p2_succ]; omega
    have h3 : p2 (n.log2 + 2) ≤ p2 d := p2_le (by omega)
    rw [Nat.min_eq_right (by omega), Nat.div_eq_of_lt h2, Nat.div_eq_of_lt (by omega)]

theorem read_cut {b m : Nat} {p : Int} (hp : -1074 ≤ p) (hv : m * p2 (p + 1074).toNat = val (rung b)) : m * p2 p.toNat / p2 (-p).toNat = cutN b := by
  unfold cutN
  rw [← hv]
  by_cases h : 0 ≤ p
  · rw [show (-p).toNat = 0 by omega, p2_zero, Nat.div_one, show (p + 1074).toNat = p.toNat + 1074 by omega, p2_add, ← Nat.mul_assoc, Nat.mul_div_cancel _ (p2_pos 1074)]
  · rw [show p.toNat = 0 by omega, p2_zero, Nat.mul_one]
    have e : p2 1074 = p2 (-p).toNat * p2 (p + 1074).toNat := by rw [← p2_add]; congr 1; omega
    rw [e, Nat.mul_div_mul_right _ _ (p2_pos _)]

theorem integral_fin {b : Nat} (h : rung b < 9218868437227405312) : (Ieee.double.read b).integral .zero = .number (neg b) (cutN b) 0 := by
  obtain ⟨m, p, e, hp, hv⟩ := read_fin h
  rw [e]
  show Ieee.Datum.number (neg b) (Ieee.Toward.zero.cut (neg b) (m <<< p.toNat) (-p).toNat) 0 = _
  rw [cut_zero, Nat.shiftLeft_eq, ← p2_eq, read_cut hp hv]

theorem toInt_fin {b : Nat} (h : rung b < 9218868437227405312) : (Ieee.double.read b).toInt .zero = some (cutI b) := by
  unfold Ieee.Datum.toInt
  rw [integral_fin h]
  simp only [signed_eq, p2_eq]
  unfold cutI
  cases neg b <;> simp

theorem cut_le (b : Nat) : cutN b * p2 1074 ≤ val (rung b) := Nat.div_mul_le_self _ _
theorem lt_cut (b : Nat) : val (rung b) < (cutN b + 1) * p2 1074 := by
  have := Nat.lt_mul_div_succ (val (rung b)) (p2_pos 1074)
  rw [Nat.mul_comm] at this
  exact this

/-- a whole number of units whose digits fit is a double's: what is cut of a double is one -/
theorem rep_cut {b : Nat} (h : rung b < 9218868437227405312) : Rep (cutN b * p2 1074) := by
  have hlt : cutN b * p2 1074 < p2 2098 := by
    have := val_lt h; rw [val_inf] at this
    have := cut_le b; omega
  refine ⟨hlt, ?_⟩
  obtain ⟨L, k, _, hk, _, hv⟩ := val_split (rung b)
  unfold cutN at *
  rw [hv] at *
  by_cases hL : 1074 ≤ L
  · refine ⟨k, L, hk, ?_⟩
    rw [Nat.div_mul_cancel]
    exact Nat.dvd_trans (p2_dvd hL) (Nat.dvd_mul_left _ _)
  · refine ⟨k * p2 L / p2 1074, 1074, ?_, rfl⟩
    have h1 : p2 1074 = p2 (1074 - L) * p2 L := by rw [← p2_add]; congr 1; omega
    rw [h1, Nat.mul_div_mul_right _ _ (p2_pos L)]
    exact Nat.lt_of_le_of_lt (Nat.div_le_self _ _) hk

/-- math.Trunc's bits of what is no NaN -/
def truncBits (b : Nat) : Nat := FloatKind.f64.encode ((FloatKind.f64.decode b).integral .zero)
theorem trunc_fin {b : Nat} (h : rung b < 9218868437227405312) : Is (truncBits b) (neg b) (cutN b * p2 1074) := by
  unfold truncBits
  show Is (Ieee.double.write ((Ieee.double.read b).integral .zero)) _ _
  rw [integral_fin h]
  refine nearest_exact (K := 1074) _ (by omega) (by omega) ?_ (rep_cut h)
  rw [show ((0 : Int) + ((1074 : Nat) : Int)).toNat = 1074 from rfl, Nat.sub_self, p2_zero, Nat.mul_one]
theorem trunc_inf {b : Nat} (h : rung b = 9218868437227405312) : truncBits b = word (neg b) 9218868437227405312 := by
  unfold truncBits
  show Ieee.double.write ((Ieee.double.read b).integral .zero) = _
  rw [read_inf h]
  show Ieee.double.word (neg b) Ieee.double.infRung = _
  rw [word_eq, D_inf]
theorem trunc_not_nan {b : Nat} (h : ¬ isNaN b) : ¬ isNaN (truncBits b) := by
  unfold isNaN at h
  rcases Nat.eq_or_lt_of_le (show rung b ≤ 9218868437227405312 by omega) with h1 | h1
  · rw [trunc_inf h1]; unfold isNaN; rw [rung_word _ (by omega)]; omega
  · exact (trunc_fin h1).not_nan

theorem units_trunc {b : Nat} (h : rung b < 9218868437227405312) : units (truncBits b) = cutI b * (p2 1074 : Nat) := by
  rw [(trunc_fin h).units_]
  unfold cutI
  cases neg b <;> simp [Int.natCast_mul, Int.neg_mul]

theorem mul_lt_p2 {a b : Int} : a * (p2 1074 : Nat) < b * (p2 1074 : Nat) ↔ a < b := Int.mul_lt_mul_right (Int.natCast_pos.2 (p2_pos _))
theorem mul_eq_p2 {a b : Int} : a * (p2 1074 : Nat) = b * (p2 1074 : Nat) ↔ a = b := Int.mul_eq_mul_right_iff (by have := p2_pos 1074; omega)

/-- the order of a double and a whole number that was made real -/
theorem ord_fo {x : Nat} (hx : ¬ isNaN x) {n : Int} (hn : n.natAbs ≤ 9007199254740992) : FloatKind.f64.format.order x (floatOfInt .f64 n) = some (compare (units x) (n * (p2 1074 : Nat))) := by
  show Ieee.double.order x (floatOfInt .f64 n) = _
  rw [order_eq hx (fo_is hn).not_nan]
  congr 1
  show compare (units x) (units (Ieee.double.nearest (decide (n < 0)) n.natAbs 0)) = _
  rw [ofInt_units hn]

/-- what is cut lies from -n to n just if the number lies within -(n+1) and n+1 -/
theorem cutI_ge {b : Nat} {n : Nat} : -(n : Int) ≤ cutI b ↔ -((n : Int) + 1) * (p2 1074 : Nat) < units b := by
  have h1 := cut_le b
  have h2 := lt_cut b
  unfold cutI units
  have hc : ((n : Int) + 1) * (p2 1074 : Nat) = (((n + 1) * p2 1074 : Nat) : Int) := by rw [Int.natCast_mul]; rfl
  rw [Int.neg_mul, hc]
  have hle : cutN b ≤ n ↔ val (rung b) < (n + 1) * p2 1074 := by
    constructor
    · intro h
      exact Nat.lt_of_lt_of_le h2 (Nat.mul_le_mul_right _ (by omega))
    · intro h
      have := Nat.lt_of_le_of_lt h1 h
      have := Nat.lt_of_mul_lt_mul_right this
      omega
  split
  · constructor
    · intro h; have := hle.1 (by omega); omega
    · intro h; have := hle.2 (by omega); omega
  · have : 0 < (n + 1) * p2 1074 := Nat.mul_pos (by omega) (p2_pos _)
    omega
theorem cutI_le {b : Nat} {n : Nat} : cutI b ≤ (n : Int) ↔ units b < ((n : Int) + 1) * (p2 1074 : Nat) := by
  have h1 := cut_le b
  have h2 := lt_cut b
  unfold cutI units
  have hc : ((n : Int) + 1) * (p2 1074 : Nat) = (((n + 1) * p2 1074 : Nat) : Int) := by rw [Int.natCast_mul]; rfl
  rw [hc]
  have hle : cutN b ≤ n ↔ val (rung b) < (n + 1) * p2 1074 := by
    constructor
    · intro h
      exact Nat.lt_of_lt_of_le h2 (Nat.mul_le_mul_right _ (by omega))
    · intro h
      have := Nat.lt_of_le_of_lt h1 h
      have := Nat.lt_of_mul_lt_mul_right this
      omega
  split
  · have : 0 < (n + 1) * p2 1074 := Nat.mul_pos (by omega) (p2_pos _)
    omega
  · constructor
    · intro h; have := hle.1 (by omega); omega
    · intro h; have := hle.2 (by omega); omega

/-! ### the tests of RealWhole, by where x lies -/
theorem fo_m32769 : floatOfInt .f64 (-32769) = 13898108587504304128 := by decide
theorem fo_m32768 : floatOfInt .f64 (-32768) = 13898108450065350656 := by decide
theorem fo_32768 : floatOfInt .f64 32768 = 4674736413210574848 := by decide
theorem fo_32767 : floatOfInt .f64 32767 = 4674736138332667904 := by decide

theorem gt_of_cmp (a b : Int) : ((some (compare a b) : Option Ordering) == some .gt) = decide (b < a) := by
  rw [cmp_cases]
  by_cases h : a < b
  · have h2 : ¬ b < a := by omega
    simp [h, h2]
  · by_cases h2 : a = b
    · simp [h2]
    · have h3 : b < a := by omega
      simp [h, h2, h3]
theorem lt_of_cmp (a b : Int) : ((some (compare a b) : Option Ordering) == some .lt) = decide (a < b) := by
  rw [cmp_cases]
  by_cases h : a < b
  · simp [h]
  · by_cases h2 : a = b <;> simp [h, h2]
theorem ge_of_cmp (a b : Int) : ((some (compare a b) : Option Ordering) == some .gt || (some (compare a b) : Option Ordering) == some .eq) = decide (b ≤ a) := by
  rw [cmp_cases]
  by_cases h : a < b
  · have h2 : ¬ b ≤ a := by omega
    simp [h, h2]
  · have h3 : b ≤ a := by omega
    by_cases h2 : a = b <;> simp [h, h2, h3]
theorem le_of_cmp (a b : Int) : ((some (compare a b) : Option Ordering) == some .lt || (some (compare a b) : Option Ordering) == some .eq) = decide (a ≤ b) := by
  rw [cmp_cases]
  by_cases h : a < b
  · have h2 : a ≤ b := by omega
    simp [h, h2]
  · by_cases h2 : a = b
    · simp [h2]
    · have h3 : ¬ a ≤ b := by omega
      simp [h, h2, h3]

theorem inf_big (n : Nat) (h : n ≤ 65535) : ((n : Int) + 1) * (p2 1074 : Nat) ≤ ((p2 2098 : Nat) : Int) := by
  have h1 : p2 2098 = p2 1024 * p2 1074 := by rw [← p2_add]
  have h2 : p2 16 ≤ p2 1024 := p2_le (by omega)
  have h3 : (n + 1) * p2 1074 ≤ p2 1024 * p2 1074 := Nat.mul_le_mul_right _ (by have : p2 16 = 65536 := rfl; omega)
  rw [h1]
  have hc : ((n : Int) + 1) * (p2 1074 : Nat) = (((n + 1) * p2 1074 : Nat) : Int) := by rw [Int.natCast_mul]; rfl
  rw [hc]; exact Int.ofNat_le.2 h3

theorem trunc_ge {x : Nat} (hx : ¬ isNaN x) {n : Nat} (hn : n ≤ 65534) :
    (FloatKind.f64.format.order (truncBits x) (floatOfInt .f64 (-(n : Int))) == some .gt || FloatKind.f64.format.order (truncBits x) (floatOfInt .f64 (-(n : Int))) == some .eq) = decide (-((n : Int) + 1) * (p2 1074 : Nat) < units x) := by
  rw [ord_fo (trunc_not_nan hx) (by omega), ge_of_cmp]
  unfold isNaN at hx
  rcases Nat.eq_or_lt_of_le (show rung x ≤ 9218868437227405312 by omega) with h1 | h1
  · have hb := inf_big n (by omega)
    have hp : (0 : Int) < (p2 1074 : Nat) := Int.natCast_pos.2 (p2_pos _)
    have h0 : (0 : Int) < (p2 2098 : Nat) := Int.natCast_pos.2 (p2_pos _)
    rw [trunc_inf h1, units_inf h1, units_inf (rung_word _ (by omega)), neg_word _ (by omega)]
    rw [decide_eq_decide]
    have e1 : -((n : Int) + 1) * (p2 1074 : Nat) = -(((n : Int) + 1) * (p2 1074 : Nat)) := Int.neg_mul _ _
    have e2 : -(n : Int) * (p2 1074 : Nat) = -((n : Int) * (p2 1074 : Nat)) := Int.neg_mul _ _
    have e3 : ((n : Int) + 1) * (p2 1074 : Nat) = (n : Int) * (p2 1074 : Nat) + (p2 1074 : Nat) := by rw [Int.add_mul, Int.one_mul]
    have hnn : 0 ≤ (n : Int) * (p2 1074 : Nat) := Int.mul_nonneg (by omega) (by omega)
    rw [e1, e2]
    generalize (n : Int) * (p2 1074 : Nat) = q at *
    generalize ((n : Int) + 1) * (p2 1074 : Nat) = q' at *
    generalize ((p2 1074 : Nat) : Int) = P at *
    generalize ((p2 2098 : Nat) : Int) = R at *
    split <;> omega
  · rw [units_trunc h1, decide_eq_decide, ← cutI_ge]
    constructor
    · intro h
      rcases Int.lt_or_le (cutI x) (-(n : Int)) with h2 | h2
      · have := mul_lt_p2.2 h2; omega
      · exact h2
    · intro h
      rcases (show -(n : Int) = cutI x ∨ -(n : Int) < cutI x by omega) with h2 | h2
      · rw [h2]; exact Int.le_refl _
      · exact Int.le_of_lt (mul_lt_p2.2 h2)
theorem trunc_le {x : Nat} (hx : ¬ isNaN x) {n : Nat} (hn : n ≤ 65534) :
    (FloatKind.f64.format.order (truncBits x) (floatOfInt .f64 (n : Int)) == some .lt || FloatKind.f64.format.order (truncBits x) (floatOfInt .f64 (n : Int)) == some .eq) = decide (units x < ((n : Int) + 1) * (p2 1074 : Nat)) := by
  rw [ord_fo (trunc_not_nan hx) (by omega), le_of_cmp]
  unfold isNaN at hx
  rcases Nat.eq_or_lt_of_le (show rung x ≤ 9218868437227405312 by omega) with h1 | h1
  · have hb := inf_big n (by omega)
    have hp : (0 : Int) < (p2 1074 : Nat) := Int.natCast_pos.2 (p2_pos _)
    have h0 : (0 : Int) < (p2 2098 : Nat) := Int.natCast_pos.2 (p2_pos _)
    rw [trunc_inf h1, units_inf h1, units_inf (rung_word _ (by omega)), neg_word _ (by omega)]
    rw [decide_eq_decide]
    have e3 : ((n : Int) + 1) * (p2 1074 : Nat) = (n : Int) * (p2 1074 : Nat) + (p2 1074 : Nat) := by rw [Int.add_mul, Int.one_mul]
    have hnn : 0 ≤ (n : Int) * (p2 1074 : Nat) := Int.mul_nonneg (by omega) (by omega)
    generalize (n : Int) * (p2 1074 : Nat) = q at *
    generalize ((n : Int) + 1) * (p2 1074 : Nat) = q' at *
    generalize ((p2 1074 : Nat) : Int) = P at *
    generalize ((p2 2098 : Nat) : Int) = R at *
    split <;> omega
  · rw [units_trunc h1, decide_eq_decide, ← cutI_le]
    constructor
    · intro h
      rcases Int.lt_or_le (n : Int) (cutI x) with h2 | h2
      · have := mul_lt_p2.2 h2; omega
      · exact h2
    · intro h
      rcases (show cutI x = (n : Int) ∨ cutI x < (n : Int) by omega) with h2 | h2
      · rw [h2]; exact Int.le_refl _
      · exact Int.le_of_lt (mul_lt_p2.2 h2)

/-- RealWhole's own bounds: low: x > -32769, high: x < 32768 -/
def low16 (x : Nat) : Bool := decide (-((32768 : Nat) + 1 : Int) * (p2 1074 : Nat) < units x)
def high16 (x : Nat) : Bool := decide (units x < ((32767 : Nat) + 1 : Int) * (p2 1074 : Nat))
section
variable {x : Nat} (hx : ¬ isNaN x)
include hx
theorem spec_low : (FloatKind.f64.format.order x 13898108587504304128 == some .gt) = low16 x := by
  rw [← fo_m32769, ord_fo hx (by decide), gt_of_cmp]; rfl
theorem spec_high : (FloatKind.f64.format.order x 4674736413210574848 == some .lt) = high16 x := by
  rw [← fo_32768, ord_fo hx (by decide), lt_of_cmp]; rfl
theorem impl_low : (FloatKind.f64.format.order (truncBits x) 13898108450065350656 == some .gt || FloatKind.f64.format.order (truncBits x) 13898108450065350656 == some .eq) = low16 x := by
  have := trunc_ge hx (n := 32768) (by omega)
  rw [← fo_m32768]; exact this
theorem impl_high : (FloatKind.f64.format.order (truncBits x) 4674736138332667904 == some .lt || FloatKind.f64.format.order (truncBits x) 4674736138332667904 == some .eq) = high16 x := by
  have := trunc_le hx (n := 32767) (by omega)
  rw [← fo_32767]; exact this
end
theorem in16_fin {x : Nat} (hx : ¬ isNaN x) (h1 : low16 x = true) (h2 : high16 x = true) : rung x < 9218868437227405312 ∧ -32768 ≤ cutI x ∧ cutI x ≤ 32767 := by
  unfold low16 at h1; unfold high16 at h2
  have h1' := of_decide_eq_true h1
  have h2' := of_decide_eq_true h2
  unfold isNaN at hx
  have hf : rung x < 9218868437227405312 := by
    rcases Nat.eq_or_lt_of_le (show rung x ≤ 9218868437227405312 by omega) with h | h
    · rw [units_inf h] at h1' h2'
      have a := inf_big 32768 (by omega)
      have b := inf_big 32767 (by omega)
      rw [Int.neg_mul] at h1'
      generalize ((p2 2098 : Nat) : Int) = R at *
      exfalso
      cases hnx : neg x
      · rw [hnx] at h2'; simp only [Bool.false_eq_true, if_false] at h2'; omega
      · rw [hnx] at h1'; simp only [if_true] at h1'; omega
    · exact h
  exact ⟨hf, cutI_ge.2 h1', cutI_le.2 h2'⟩
theorem out_nan_order {x : Nat} (h : isNaN x) (y : Nat) : FloatKind.f64.format.order x y = none := order_nan_l h
theorem conv_i16 {b : Nat} {n : Int} (h : (FloatKind.f64.decode b).toInt .zero = some n) (h1 : -32768 ≤ n) (h2 : n ≤ 32767) : floatToIntVal .f64 b .i16 = some n := by
  unfold floatToIntVal
  rw [h]
  exact if_pos ⟨h1, h2⟩
theorem conv_i64 {b : Nat} {n : Int} (h : (FloatKind.f64.decode b).toInt .zero = some n) (h1 : -9223372036854775808 ≤ n) (h2 : n ≤ 9223372036854775807) : floatToIntVal .f64 b .i64 = some n := by
  unfold floatToIntVal
  rw [h]
  exact if_pos ⟨h1, h2⟩
/-- what is cut of what was cut is the same -/
theorem cutI_trunc {x : Nat} (h : rung x < 9218868437227405312) : cutI (truncBits x) = cutI x := by
  have h1 := trunc_fin h
  unfold cutI cutN
  rw [h1.neg_, h1.rung_.2, Nat.mul_div_cancel _ (p2_pos _)]
  rfl
end Fl
