/-
  FLOATS AS THE MODEL RUNS THEM: whole numbers made real are ordered as they were; an operation whose answer is no number gives some NaN. No program in this text.
-/
import Derived.Laws.FloatArith
import Derived.WalkKit
import Derived.Deep.Draws
import Derived.Test.YtobbkebjgjeglaaDoorFlo2
namespace Fl
open Go

theorem fo_eq (n : Int) : floatOfInt .f64 n = Ieee.double.nearest (decide (n < 0)) n.natAbs 0 := rfl
theorem fo_is {n : Int} (h : n.natAbs ≤ 9007199254740992) : Is (floatOfInt .f64 n) (n < 0) (n.natAbs * p2 1074) := ofInt_is h

theorem cmp_cases (a b : Int) : compare a b = if a < b then .lt else if a = b then .eq else .gt := rfl
section
variable {a b : Int} (ha : a.natAbs ≤ 9007199254740992) (hb : b.natAbs ≤ 9007199254740992)
include ha hb
theorem ord_int : FloatKind.f64.format.order (floatOfInt .f64 a) (floatOfInt .f64 b) = some (compare a b) := order_ofInt ha hb
theorem int_lss : (FloatKind.f64.format.order (floatOfInt .f64 a) (floatOfInt .f64 b) == some .lt) = decide (a < b) := by
  rw [ord_int ha hb, cmp_cases]
  by_cases h : a < b
  · simp [h]
  · by_cases h2 : a = b <;> simp [h, h2]
theorem int_eql : (FloatKind.f64.format.order (floatOfInt .f64 a) (floatOfInt .f64 b) == some .eq) = (a == b) := by
  rw [ord_int ha hb, cmp_cases]
  by_cases h : a < b
  · have h2 : ¬ a = b := by omega
    simp [h, h2]
  · by_cases h2 : a = b <;> simp [h, h2]
theorem int_neq : (FloatKind.f64.format.order (floatOfInt .f64 a) (floatOfInt .f64 b) != some .eq) = (a != b) := by
  unfold bne; rw [int_eql ha hb]
theorem int_gtr : (FloatKind.f64.format.order (floatOfInt .f64 a) (floatOfInt .f64 b) == some .gt) = decide (b < a) := by
  rw [ord_int ha hb, cmp_cases]
  by_cases h : a < b
  · have h2 : ¬ b < a := by omega
    simp [h, h2]
  · by_cases h2 : a = b
    · simp [h2]
    · have h3 : b < a := by omega
      simp [h, h2, h3]
theorem int_leq : (FloatKind.f64.format.order (floatOfInt .f64 a) (floatOfInt .f64 b) == some .lt || FloatKind.f64.format.order (floatOfInt .f64 a) (floatOfInt .f64 b) == some .eq) = decide (a ≤ b) := by
  rw [int_lss ha hb, int_eql ha hb]
  by_cases h : a < b
  · have h3 : a ≤ b := by omega
    simp [h, h3]
  · by_cases h2 : a = b
    · simp [h2]
    · have h3 : ¬ a ≤ b := by omega
      simp [h, h2, h3]
theorem int_geq : (FloatKind.f64.format.order (floatOfInt .f64 a) (floatOfInt .f64 b) == some .gt || FloatKind.f64.format.order (floatOfInt .f64 a) (floatOfInt .f64 b) == some .eq) = decide (b ≤ a) := by
  rw [int_gtr ha hb, int_eql ha hb]
  by_cases h : b < a
  · have h3 : b ≤ a := by omega
    simp [h, h3]
  · by_cases h2 : a = b
    · simp [h2]
    · have h3 : ¬ b ≤ a := by omega
      simp [h, h2, h3]
end

/-- the NaN that the model draws where an operation has no answer -/
def nanAt (w : World) (x y : Nat) : Nat := (Question.nanBits .f64 x y).cut (w.tape w.drawn (.nanBits .f64 x y))
theorem nanAt_nan (w : World) (x y : Nat) : isNaN (nanAt w x y) ∧ nanAt w x y < 18446744073709551616 := by
  unfold nanAt Question.cut isNaN rung
  generalize w.tape w.drawn (.nanBits .f64 x y) = t
  simp only
  have h1 : t % 2 = 0 ∨ t % 2 = 1 := by omega
  have h2 : t / 2 % (2 ^ 52 - 1) < 4503599627370495 := Nat.mod_lt _ (by decide)
  have e63 : (2 : Nat) ^ 63 = 9223372036854775808 := by decide
  generalize t / 2 % (2 ^ 52 - 1) = r at *
  rw [e63]
  rcases h1 with h | h <;> rw [h] <;> omega

theorem run_float_nan {P : Program} (op : BinOp) (hop : op = .add ∨ op = .sub ∨ op = .mul ∨ op = .quo) (t : TypeId) (x y : Nat) (h : floatBits op .f64 x y = none) (w : World) :
    (binOp op t (.float .f64 x) (.float .f64 y)).run P w = .ok (.float .f64 (nanAt w x y)) w.drew := by
  unfold floatBits at h
  rcases hop with rfl | rfl | rfl | rfl <;> simp only at h <;> simp [binOp, Op.floatArith, h, Question.forced, nanAt]

/-- whatever the operation gives, it gives a double: the answer, and how often the tape is asked, by name -/
def arithVal (op : BinOp) (x y : Nat) (w : World) : Nat := match floatBits op .f64 x y with | some r => r | none => nanAt w x y
def arithDraw (op : BinOp) (x y : Nat) : Nat := match floatBits op .f64 x y with | some _ => 0 | none => 1
theorem run_float_any {P : Program} (op : BinOp) (hop : op = .add ∨ op = .sub ∨ op = .mul ∨ op = .quo) (t : TypeId) (x y : Nat) (w : World) :
    (binOp op t (.float .f64 x) (.float .f64 y)).run P w = .ok (.float .f64 (arithVal op x y w)) (w.drewN (arithDraw op x y)) := by
  unfold arithVal arithDraw
  cases h : floatBits op .f64 x y with
  | some r => exact run_float_arith w op t .f64 x y r h
  | none => exact run_float_nan op hop t x y h w
theorem arithVal_lt (op : BinOp) (x y : Nat) (w : World) : arithVal op x y w < 18446744073709551616 := by
  unfold arithVal
  cases h : floatBits op .f64 x y with
  | some r => have := floatBits_wf h; simpa [Lit.wf] using this
  | none => exact (nanAt_nan w x y).2
theorem fo_lt (n : Int) : floatOfInt .f64 n < 18446744073709551616 := by have := floatOfInt_wf .f64 n; simpa [Lit.wf] using this

/-- the sign turned -/
theorem negFloat_eq {b : Nat} (hb : b < 18446744073709551616) : Op.negFloat .f64 b = word (!neg b) (rung b) := by
  show b ^^^ 2 ^ 63 = _
  have h1 : (b ^^^ 2 ^ 63) % 2 ^ 63 = b % 2 ^ 63 := by rw [Nat.xor_mod_two_pow, Nat.mod_self, Nat.xor_zero]
  have h2 : (b ^^^ 2 ^ 63) / 2 ^ 63 = (b / 2 ^ 63) ^^^ 1 := by rw [Nat.xor_div_two_pow, Nat.div_self (by decide)]
  have h3 : b / 2 ^ 63 = 0 ∨ b / 2 ^ 63 = 1 := by omega
  have h4 := Nat.div_add_mod (b ^^^ 2 ^ 63) (2 ^ 63)
  rw [h1, h2] at h4
  unfold word neg rung
  rw [← h4, show (9223372036854775808 : Nat) = 2 ^ 63 by decide]
  rcases h3 with h | h <;> rw [h]
  · simp
  · simp
theorem negFloat_lt {b : Nat} (hb : b < 18446744073709551616) : Op.negFloat .f64 b < 18446744073709551616 := by
  rw [negFloat_eq hb]
  have := rung_lt b
  unfold word; split <;> omega
theorem rung_neg {b : Nat} (hb : b < 18446744073709551616) : rung (Op.negFloat .f64 b) = rung b := by rw [negFloat_eq hb, rung_word _ (rung_lt b)]
theorem neg_neg {b : Nat} (hb : b < 18446744073709551616) : neg (Op.negFloat .f64 b) = !neg b := by rw [negFloat_eq hb, neg_word _ (rung_lt b)]
theorem Is.turned {b : Nat} {s : Bool} {v : Nat} (h : Is b s v) : Is (Op.negFloat .f64 b) (!s) v := by
  obtain ⟨r, hr, rfl, hv⟩ := h
  have hlt : word s r < 18446744073709551616 := by unfold word; split <;> omega
  exact ⟨r, hr, by rw [negFloat_eq hlt, neg_word _ (by omega), rung_word _ (by omega)], hv⟩
theorem run_neg_float {P : Program} (b : Nat) (w : World) : (Op.unary .neg (.float .f64 b)).run P w = .ok (.float .f64 (Op.negFloat .f64 b)) w := by
  unfold Op.unary; simp

theorem ord_self {x : Nat} (h : ¬ isNaN x) : FloatKind.f64.format.order x x = some .eq := by
  show Ieee.double.order x x = _
  rw [order_eq h h, cmp_cases, if_neg (by omega), if_pos rfl]
theorem ord_nan_l {x : Nat} (h : isNaN x) (y : Nat) : FloatKind.f64.format.order x y = none := order_nan_l h
theorem ord_nan_r {y : Nat} (h : isNaN y) (x : Nat) : FloatKind.f64.format.order x y = none := order_nan_r h
/-- x == 0 -/
theorem ord_zero {x : Nat} (h : ¬ isNaN x) : (FloatKind.f64.format.order x 0 == some .eq) = decide (rung x = 0) := by
  show (Ieee.double.order x 0 == some .eq) = _
  rw [order_eq h (by decide), cmp_cases]
  have h0 : units 0 = 0 := rfl
  rw [h0]
  have hu : units x = 0 ↔ rung x = 0 := by
    unfold units
    rw [← val_eq_zero]
    split <;> omega
  by_cases hz : rung x = 0
  · have := hu.2 hz
    simp [this, hz]
  · have hn : ¬ units x = 0 := fun e => hz (hu.1 e)
    by_cases hl : units x < 0 <;> simp [hl, hn, hz]
/-- 1 / ±0 -/
theorem one_div_zero {x : Nat} (hx : x < 18446744073709551616) (h : rung x = 0) : floatBits .quo .f64 4607182418800017408 x = some (word (neg x) 9218868437227405312) := by
  have h1 : x = 0 ∨ x = 9223372036854775808 := by unfold rung at h; omega
  rcases h1 with rfl | rfl <;> decide
theorem word_inf_pos (s : Bool) : (FloatKind.f64.format.order (word s 9218868437227405312) 0 == some .gt) = !s := by
  cases s <;> decide
end Fl
