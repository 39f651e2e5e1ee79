/-
  PLAIN LAWS ON IEEE DOUBLES, SECOND PART: products and quotients that are exact; cutting to a whole number. No program in this text.
-/
import Derived.Test.YtobbkebjgjeglaaDoorFlo
namespace Fl
open Ieee

theorem mul_exact {x y v : Nat} (hx : rung x < 9218868437227405312) (hy : rung y < 9218868437227405312) (hv : val (rung x) * val (rung y) = v * p2 1074) (hr : Rep v) :
    ∃ r, double.mul x y = some r ∧ Is r (neg x ^^ neg y) v := by
  obtain ⟨m, p, e, hp, hm⟩ := read_fin hx
  obtain ⟨n, q, e', hq, hn⟩ := read_fin hy
  refine ⟨_, ?_, nearest_exact (K := 2148) (mag := m * n) (place := p + q) _ (by omega) (by omega) ?_ hr⟩
  · unfold Format.mul
    rw [e, e']
    rfl
  · rw [← hm, ← hn] at hv
    rw [show (p + q + ((2148 : Nat) : Int)).toNat = (p + 1074).toNat + (q + 1074).toNat by omega, p2_add, show 2148 - 1074 = 1074 by omega, ← hv]
    rw [Nat.mul_mul_mul_comm]

/-- the double 2 -/
theorem two_is : Is 4611686018427387904 false (2 * p2 1074) := by
  refine ⟨4611686018427387904, by omega, rfl, ?_⟩
  have := val_LK 1023 4503599627370496 (by omega) (by omega)
  rw [show (1023 * 4503599627370496 + 4503599627370496 : Nat) = 4611686018427387904 by omega] at this
  rw [this, ← p2_52, ← p2_add, show (52 + 1023) = 1074 + 1 by omega, p2_succ, Nat.mul_comm]

theorem mul_two {x v : Nat} {s : Bool} (hx : Is x s v) (hr : Rep (v * 2)) : ∃ r, double.mul x 4611686018427387904 = some r ∧ Is r s (v * 2) := by
  obtain ⟨r, h1, h2⟩ := mul_exact (v := v * 2) hx.rung_.1 two_is.rung_.1 (by rw [hx.rung_.2, two_is.rung_.2, ← Nat.mul_assoc]) hr
  rw [hx.neg_, two_is.neg_] at h2
  exact ⟨r, h1, by simpa using h2⟩

theorem rep_half {v : Nat} (h : Rep (v * 2)) : Rep v := by
  obtain ⟨hlt, m, e, hm, hv⟩ := h
  refine ⟨by omega, ?_⟩
  cases e with
  | zero => exact ⟨v, 0, by rw [p2_zero, Nat.mul_one] at hv; omega, by rw [p2_zero, Nat.mul_one]⟩
  | succ e => exact ⟨m, e, hm, by rw [p2_succ, ← Nat.mul_assoc] at hv; omega⟩

theorem read_mag {x m : Nat} {s : Bool} {p : Int} (h : double.read x = .number s m p) : m < 9007199254740992 ∧ (p : Int) ≤ 971 := by
  unfold Format.read at h
  dsimp only at h
  rw [D_binade, D_inf, D_least] at h
  split at h
  · injection h with _ h1 h2; subst h1 h2; omega
  · split at h
    · injection h with _ h1 h2
      subst h1 h2
      generalize x % double.signWeight = r at *
      have h3 : r / 4503599627370496 ≤ 2046 := by omega
      omega
    · split at h <;> cases h

theorem read_two : double.read 4611686018427387904 = .number false 4503599627370496 (-51) := by decide

/-- the quotient by 2 of a number of which half is a double -/
theorem div_two {x v : Nat} {s : Bool} (hx : Is x s (v * 2)) (hr : Rep v) : ∃ r, double.div x 4611686018427387904 = some r ∧ Is r s v := by
  obtain ⟨m, p, e, hp, hm⟩ := read_fin hx.rung_.1
  rw [hx.rung_.2] at hm
  rw [hx.neg_] at e
  obtain ⟨hm53, hp2⟩ := read_mag e
  have hml : m.log2 ≤ 52 := by
    by_cases h0 : m = 0
    · subst h0; decide
    · have := log2_two_pow_le (show m < p2 53 from hm53) h0; omega
  have hlog : (4503599627370496 : Nat).log2 = 52 := by decide
  obtain ⟨more, hmore⟩ : ∃ k, 106 - m.log2 = 52 + k := ⟨54 - m.log2, by omega⟩
  have hd1 : m * p2 (52 + more) / 4503599627370496 = m * p2 more := by
    rw [p2_add, ← p2_52, Nat.mul_left_comm]; exact Nat.mul_div_cancel_left _ (p2_pos 52)
  have hd2 : m * p2 (52 + more) % 4503599627370496 = 0 := by
    rw [p2_add, ← p2_52, Nat.mul_left_comm]; exact Nat.mul_mod_right _ _
  have hdiv : double.div x 4611686018427387904 = some (double.nearest s (2 * (m * p2 more)) (p - (-51) - ((52 + more : Nat) : Int) - 1)) := by
    unfold Format.div
    rw [e, read_two, D_frac]
    simp only [Datum.quotient, hlog, Nat.shiftLeft_eq, ← p2_eq]
    rw [if_neg (by omega), show 52 + 2 + 52 - m.log2 = 52 + more by omega, hd1, hd2]
    simp only [Option.map_some, Format.write, Bool.xor_false, bne_self_eq_false, Bool.toNat_false, Nat.add_zero]
  refine ⟨_, hdiv, nearest_exact (K := 1174) _ (by omega) (by omega) ?_ hr⟩
  generalize hj : (p - (-51) - ((52 + more : Nat) : Int) - 1 + ((1174 : Nat) : Int)).toNat = j
  have hjj : more + j = (p + 1074).toNat + 98 := by omega
  have h100 : p2 100 = p2 98 * 2 * 2 := by rw [← p2_succ, ← p2_succ]
  calc 2 * (m * p2 more) * p2 j = 2 * (m * p2 (more + j)) := by rw [p2_add, Nat.mul_assoc, Nat.mul_assoc]
    _ = 2 * (m * p2 (p + 1074).toNat * p2 98) := by rw [hjj, p2_add, Nat.mul_assoc]
    _ = v * p2 100 := by rw [hm, h100, Nat.mul_assoc v 2, Nat.mul_left_comm 2 v, Nat.mul_comm (p2 98 * 2), Nat.mul_comm (p2 98)]
end Fl
