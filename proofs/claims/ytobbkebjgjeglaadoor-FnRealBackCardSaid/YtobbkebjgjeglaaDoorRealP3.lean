/-
  A REAL NUMBER'S TEXT, PLAINLY: what halving and doubling leave; the order of numbers above 0. No program in this text.
-/
import Derived.Test.YtobbkebjgjeglaaDoorRealP2
import Derived.Test.YtobbkebjgjeglaaDoorFlo4
namespace RealP
open Fl ItoP Go

theorem half_of {v : Nat} (h : Rep v) (hv : p2 1127 ≤ v) : ∃ u, v = u * 2 ∧ Rep u := by
  obtain ⟨hlt, m, e, hm, rfl⟩ := h
  cases e with
  | zero =>
    have h1 : p2 53 ≤ p2 1127 := p2_le (by omega)
    rw [p2_53] at h1
    rw [p2_zero, Nat.mul_one] at hv
    omega
  | succ e =>
    have e1 : m * p2 (e + 1) = m * p2 e * 2 := by rw [p2_succ, ← Nat.mul_assoc]
    rw [e1] at hlt ⊢
    exact ⟨m * p2 e, rfl, by omega, m, e, hm, rfl⟩
theorem rep_dbl {v : Nat} (h : Rep v) (hv : v < p2 1126) : Rep (v * 2) := by
  obtain ⟨hlt, m, e, hm, rfl⟩ := h
  have h1 : p2 1126 * 2 ≤ p2 2098 := by rw [← p2_succ]; exact p2_le (by omega)
  exact ⟨by omega, m, e + 1, hm, by rw [p2_succ, ← Nat.mul_assoc]⟩
theorem dbl_lt {v : Nat} (hv : v < p2 1126) : v * 2 < p2 1127 := by rw [p2_succ]; omega
theorem whole_of {v : Nat} (h : Rep v) (h1 : p2 1126 ≤ v) (h2 : v < p2 1127) : ∃ n, v = n * p2 1074 ∧ 4503599627370496 ≤ n ∧ n < 9007199254740992 := by
  obtain ⟨hlt, m, e, hm, rfl⟩ := h
  have he : 1074 ≤ e := by
    rcases Nat.lt_or_ge e 1074 with h3 | h3
    · exfalso
      have h4 : m * p2 e ≤ m * p2 1073 := Nat.mul_le_mul_left _ (p2_le (by omega))
      have h5 : m * p2 1073 < p2 53 * p2 1073 := by rw [p2_53]; exact (Nat.mul_lt_mul_right (p2_pos _)).2 hm
      rw [← p2_add] at h5
      exact absurd h1 (Nat.not_le.2 (Nat.lt_of_le_of_lt h4 h5))
    · exact h3
  have e1 : m * p2 e = m * p2 (e - 1074) * p2 1074 := by rw [Nat.mul_assoc, ← p2_add, show e - 1074 + 1074 = e by omega]
  refine ⟨m * p2 (e - 1074), e1, ?_, ?_⟩
  · rw [e1, show (1126 : Nat) = 52 + 1074 by omega, p2_add, p2_52] at h1
    exact Nat.le_of_mul_le_mul_right h1 (p2_pos _)
  · rw [e1, show (1127 : Nat) = 53 + 1074 by omega, p2_add, p2_53] at h2
    exact Nat.lt_of_mul_lt_mul_right h2
theorem bound1 {V v a : Nat} (hV : V < p2 2098) (h1 : 1 ≤ v) (h : v * p2 a = V) : a < 2098 := by
  rcases Nat.lt_or_ge a 2098 with h2 | h2
  · exact h2
  · have h3 := p2_le h2
    have h4 : 1 * p2 a ≤ v * p2 a := Nat.mul_le_mul_right _ h1
    omega
theorem bound2 {V v a c : Nat} (h1 : 1 ≤ V) (h : v * p2 a = V * p2 c) (hv : v < p2 1127) : c < 1127 + a := by
  rcases Nat.lt_or_ge c (1127 + a) with h2 | h2
  · exact h2
  · exfalso
    have h3 := p2_le h2
    have h4 : 1 * p2 c ≤ V * p2 c := Nat.mul_le_mul_right _ h1
    have h5 : v * p2 a < p2 1127 * p2 a := (Nat.mul_lt_mul_right (p2_pos _)).2 hv
    rw [← p2_add] at h5
    omega
theorem bound3 {V n a c : Nat} (h1 : 1 ≤ n) (h : n * p2 (a + 1074) = V * p2 c) (hV : V < p2 2098) : a + 1074 < 2098 + c := by
  rcases Nat.lt_or_ge (a + 1074) (2098 + c) with h2 | h2
  · exact h2
  · exfalso
    have h3 := p2_le h2
    have h4 : 1 * p2 (a + 1074) ≤ n * p2 (a + 1074) := Nat.mul_le_mul_right _ h1
    have h5 : V * p2 c < p2 2098 * p2 c := (Nat.mul_lt_mul_right (p2_pos _)).2 hV
    rw [← p2_add] at h5
    omega
theorem halve_inv {u v a V c : Nat} (hv : v = u * 2) (h : v * p2 a = V * p2 c) : u * p2 (a + 1) = V * p2 c := by
  rw [p2_succ, ← h, hv, ← Nat.mul_assoc, Nat.mul_right_comm]
theorem dbl_inv {v a V c : Nat} (h : v * p2 a = V * p2 c) : v * 2 * p2 a = V * p2 (c + 1) := by
  rw [p2_succ, ← Nat.mul_assoc, ← h, Nat.mul_right_comm]
/-- what is left where the number has become odd -/
theorem num_end {V n a c : Nat} (hV : V ≠ 0) (h : n * p2 (a + 1074) = V * p2 c) (ho : n % 2 = 1) : num V = (itoaB (n : Int) ++ star) ++ itoaB ((a : Int) - (c : Int)) := by
  have h1 := odd_mul hV
  have h2 := odd_mod hV
  have h3 : n * p2 (a + 1074) = odd V * p2 (tz V + c) := by rw [h, p2_add, ← Nat.mul_assoc, ← h1]
  have a1 := odd_is (m := n) (t := a + 1074) ho
  have a2 := odd_is (m := odd V) (t := tz V + c) h2
  rw [h3] at a1
  have e1 : odd V = n := a2.1.symm.trans a1.1
  have e2 : tz V + c = a + 1074 := a2.2.symm.trans a1.2
  unfold num
  rw [e1, show ((tz V : Int) - 1074) = (a : Int) - (c : Int) by omega]
/-- the order of numbers that are not below 0 -/
theorem ord_pos {x c : Nat} (hx : ¬ isNaN x) (hc : ¬ isNaN c) (sx : neg x = false) (sc : neg c = false) : FloatKind.f64.format.order x c = some (compare (val (rung x) : Int) (val (rung c) : Int)) := by
  show Ieee.double.order x c = _
  rw [order_eq hx hc]
  unfold units
  rw [sx, sc]
  rfl
theorem val_53 : val (rung 4845873199050653696) = p2 1127 := by
  have := val_LK 1075 4503599627370496 (by omega) (by omega)
  rw [show rung 4845873199050653696 = 1075 * 4503599627370496 + 4503599627370496 by decide, this, ← p2_52, ← p2_add]
theorem val_52 : val (rung 4841369599423283200) = p2 1126 := by
  have := val_LK 1074 4503599627370496 (by omega) (by omega)
  rw [show rung 4841369599423283200 = 1074 * 4503599627370496 + 4503599627370496 by decide, this, ← p2_52, ← p2_add]
theorem ge_53 {x v : Nat} (h : Is x false v) : (FloatKind.f64.format.order x 4845873199050653696 == some .gt || FloatKind.f64.format.order x 4845873199050653696 == some .eq) = decide (p2 1127 ≤ v) := by
  rw [ord_pos h.not_nan (by decide) h.neg_ (by decide), ge_of_cmp, val_53, h.rung_.2]
  simp
theorem lt_52 {x v : Nat} (h : Is x false v) : (FloatKind.f64.format.order x 4841369599423283200 == some .lt) = decide (v < p2 1126) := by
  rw [ord_pos h.not_nan (by decide) h.neg_ (by decide), lt_of_cmp, val_52, h.rung_.2]
  simp
theorem gt_max {x : Nat} (hx : ¬ isNaN x) (hs : neg x = false) : (FloatKind.f64.format.order x 9218868437227405311 == some .gt) = decide (rung x = 9218868437227405312) := by
  rw [ord_pos hx (by decide) hs (by decide), gt_of_cmp]
  have e : rung 9218868437227405311 = 9218868437227405311 := by decide
  have hn : rung x ≤ 9218868437227405312 := by unfold isNaN at hx; omega
  rw [e]
  by_cases h : rung x = 9218868437227405312
  · rw [decide_eq_true h, decide_eq_true]
    have := val_lt (r := 9218868437227405311) (s := rung x) (by omega)
    omega
  · rw [decide_eq_false h, decide_eq_false]
    have := val_le (r := rung x) (s := 9218868437227405311) (by omega)
    omega
theorem lt_zero {x : Nat} (hx : ¬ isNaN x) (hz : rung x ≠ 0) : (FloatKind.f64.format.order x 0 == some .lt) = neg x := by
  show (Ieee.double.order x 0 == some .lt) = _
  rw [order_eq hx (by decide), lt_of_cmp]
  have h0 : units 0 = 0 := rfl
  have hp : val (rung x) ≠ 0 := fun e => hz (val_eq_zero.1 e)
  rw [h0]
  unfold units
  cases neg x with
  | true => simp; omega
  | false => simp
theorem inf_lt (s : Bool) : (FloatKind.f64.format.order (word s 9218868437227405312) 0 == some .lt) = s := by
  cases s <;> decide
/-- the bits of a positive number rise with it -/
theorem bits_lt {x y v u : Nat} (hx : Is x false v) (hy : Is y false u) (h : v < u) : x < y := by
  obtain ⟨r, _, e1, e2⟩ := hx
  obtain ⟨s, _, e3, e4⟩ := hy
  rw [← e2, ← e4] at h
  have := lt_of_val_lt h
  rw [e1, e3]
  simpa [word] using this
theorem bits_top {x v : Nat} (hx : Is x false v) : x < 9218868437227405312 := by
  obtain ⟨r, hr, e1, _⟩ := hx
  rw [e1]
  simpa [word] using hr
theorem int_of {x n : Nat} (hx : Is x false (n * p2 1074)) (hn : n < 9007199254740992) : floatToIntVal .f64 x .i64 = some (n : Int) := by
  have e : cutI x = (n : Int) := by
    unfold cutI cutN
    rw [hx.neg_, hx.rung_.2, Nat.mul_div_cancel _ (p2_pos _)]
    rfl
  have h := conv_i64 (toInt_fin hx.rung_.1) (by rw [e]; omega) (by rw [e]; omega)
  rw [e] at h
  exact h
end RealP
