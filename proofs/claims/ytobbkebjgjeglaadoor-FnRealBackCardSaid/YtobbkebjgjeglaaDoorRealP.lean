/-
  A REAL NUMBER'S TEXT, PLAINLY. No program in this text.
-/
import Derived.Test.YtobbkebjgjeglaaDoorFlo2
import Derived.Test.YtobbkebjgjeglaaDoorItoP
namespace RealP
open Fl ItoP

/-- the odd part and the number of factors of two -/
def tz (v : Nat) : Nat := if h : v = 0 then 0 else if v % 2 = 0 then tz (v / 2) + 1 else 0
termination_by v
decreasing_by omega
def odd (v : Nat) : Nat := if h : v = 0 then 0 else if v % 2 = 0 then odd (v / 2) else v
termination_by v
decreasing_by omega
theorem tz_even {v : Nat} (h0 : v ≠ 0) (h : v % 2 = 0) : tz v = tz (v / 2) + 1 := by rw [tz, dif_neg h0, if_pos h]
theorem tz_odd {v : Nat} (h : v % 2 = 1) : tz v = 0 := by rw [tz, dif_neg (by omega), if_neg (by omega)]
theorem odd_even {v : Nat} (h0 : v ≠ 0) (h : v % 2 = 0) : odd v = odd (v / 2) := by rw [odd, dif_neg h0, if_pos h]
theorem odd_odd {v : Nat} (h : v % 2 = 1) : odd v = v := by rw [odd, dif_neg (by omega), if_neg (by omega)]
theorem odd_spec (n : Nat) : ∀ v, v ≤ n → v ≠ 0 → v = odd v * p2 (tz v) ∧ odd v % 2 = 1 := by
  induction n with
  | zero => intro v h h0; omega
  | succ n ih =>
    intro v h h0
    by_cases he : v % 2 = 0
    · obtain ⟨h1, h2⟩ := ih (v / 2) (by omega) (by omega)
      rw [odd_even h0 he, tz_even h0 he, p2_succ, ← Nat.mul_assoc, ← h1]
      exact ⟨by omega, h2⟩
    · rw [odd_odd (by omega), tz_odd (by omega), p2_zero]
      omega
theorem odd_mul {v : Nat} (h : v ≠ 0) : v = odd v * p2 (tz v) := (odd_spec v v (Nat.le_refl _) h).1
theorem odd_mod {v : Nat} (h : v ≠ 0) : odd v % 2 = 1 := (odd_spec v v (Nat.le_refl _) h).2
/-- there is one odd part alone -/
theorem odd_is {m t : Nat} (h : m % 2 = 1) : odd (m * p2 t) = m ∧ tz (m * p2 t) = t := by
  induction t with
  | zero => rw [p2_zero, Nat.mul_one]; exact ⟨odd_odd h, tz_odd h⟩
  | succ t ih =>
    have hp := p2_pos t
    have h0 : m * p2 t ≠ 0 := Nat.mul_ne_zero (by omega) (by omega)
    rw [p2_succ, ← Nat.mul_assoc]
    have e : m * p2 t * 2 / 2 = m * p2 t := by omega
    rw [odd_even (by omega) (by omega), tz_even (by omega) (by omega), e, ih.1, ih.2]
    exact ⟨rfl, rfl⟩
/-- the text of a number above 0 -/
def star : ByteArray := ⟨#[42, 50, 94]⟩
def num (v : Nat) : ByteArray := (itoaB (odd v : Int) ++ star) ++ itoaB ((tz v : Int) - 1074)
theorem num_at {v m t : Nat} (hv : v = m * p2 t) (h : m % 2 = 1) : num v = (itoaB (m : Int) ++ star) ++ itoaB ((t : Int) - 1074) := by
  unfold num
  rw [hv, (odd_is h).1, (odd_is h).2]
def sgn (s : Bool) : ByteArray := if s then ⟨#[45]⟩ else ⟨#[]⟩
def txt (b : Nat) : ByteArray :=
  if isNaN b then ⟨#[110, 97, 110]⟩
  else if rung b = 9218868437227405312 then (if neg b then ⟨#[45, 105, 110, 102]⟩ else ⟨#[105, 110, 102]⟩)
  else if rung b = 0 then (if neg b then ⟨#[45, 48]⟩ else ⟨#[48]⟩)
  else if neg b then ⟨#[45]⟩ ++ num (val (rung b)) else num (val (rung b))
end RealP
