/-
  PLAIN LAWS ON IEEE DOUBLES: a finite double is a whole number of units of two to the -1074. No program in this text.
-/
import Ieee.Arith
namespace Fl
open Ieee

theorem D_binade : double.binade = 4503599627370496 := by decide
theorem D_inf : double.infRung = 9218868437227405312 := by decide
theorem D_sw : double.signWeight = 9223372036854775808 := by decide
theorem D_least : double.leastPlace = -1074 := by decide
theorem D_frac : double.fractionBits = 52 := rfl

/-- a power of two, shut to simp's own arithmetic -/
def p2 (n : Nat) : Nat := 2 ^ n
theorem p2_eq (n : Nat) : p2 n = 2 ^ n := rfl
theorem p2_zero : p2 0 = 1 := rfl
theorem p2_add (a b : Nat) : p2 (a + b) = p2 a * p2 b := Nat.pow_add 2 a b
theorem p2_succ (a : Nat) : p2 (a + 1) = p2 a * 2 := Nat.pow_succ (n := 2) (m := a)
theorem p2_pos (a : Nat) : 0 < p2 a := Nat.two_pow_pos a
theorem p2_le {a b : Nat} (h : a ≤ b) : p2 a ≤ p2 b := Nat.pow_le_pow_right (by omega) h
theorem p2_lt {a b : Nat} (h : a < b) : p2 a < p2 b := Nat.pow_lt_pow_right (by omega) h
theorem p2_dvd {a b : Nat} (h : a ≤ b) : p2 a ∣ p2 b := Nat.pow_dvd_pow 2 h
theorem p2_52 : p2 52 = 4503599627370496 := rfl
theorem p2_53 : p2 53 = 9007199254740992 := rfl

/-- the rung (magnitude's word) of a word -/
def rung (b : Nat) : Nat := b % 9223372036854775808
def neg (b : Nat) : Bool := b / 9223372036854775808 % 2 == 1
def isNaN (b : Nat) : Prop := 9218868437227405312 < rung b
instance (b : Nat) : Decidable (isNaN b) := by unfold isNaN; exact inferInstance
/-- a rung's worth, in units of two to the -1074 -/
def val (r : Nat) : Nat := if r < 4503599627370496 then r else (4503599627370496 + r % 4503599627370496) * p2 (r / 4503599627370496 - 1)
def units (b : Nat) : Int := if neg b then -(val (rung b) : Int) else val (rung b)

theorem val_LK (L k : Nat) (hk : k ≤ 9007199254740992) (h : L = 0 ∨ 4503599627370496 ≤ k) : val (L * 4503599627370496 + k) = k * p2 L := by
  unfold val
  by_cases h0 : k < 4503599627370496
  · have hL : L = 0 := by omega
    subst hL
    rw [if_pos (by omega), p2_zero]; omega
  · rw [if_neg (by omega)]
    by_cases h1 : k < 9007199254740992
    · have e1 : (L * 4503599627370496 + k) / 4503599627370496 = L + 1 := by omega
      have e2 : (L * 4503599627370496 + k) % 4503599627370496 = k - 4503599627370496 := by omega
      rw [e1, e2, show 4503599627370496 + (k - 4503599627370496) = k by omega, show L + 1 - 1 = L by omega]
    · have hk2 : k = 9007199254740992 := by omega
      subst hk2
      have e1 : (L * 4503599627370496 + 9007199254740992) / 4503599627370496 = L + 2 := by omega
      have e2 : (L * 4503599627370496 + 9007199254740992) % 4503599627370496 = 0 := by omega
      rw [e1, e2, show L + 2 - 1 = L + 1 by omega, p2_succ]
      omega

/-- a rung from the first normal one on is L * 2^52 + k -/
theorem val_split (r : Nat) : ∃ L k, r = L * 4503599627370496 + k ∧ k < 9007199254740992 ∧ (L = 0 ∨ 4503599627370496 ≤ k) ∧ val r = k * p2 L := by
  by_cases h : r < 4503599627370496
  · exact ⟨0, r, by omega, by omega, .inl rfl, by unfold val; rw [if_pos h, p2_zero]; omega⟩
  · refine ⟨r / 4503599627370496 - 1, 4503599627370496 + r % 4503599627370496, by omega, by omega, .inr (by omega), ?_⟩
    unfold val; rw [if_neg h]

theorem val_lt {r s : Nat} (h : r < s) : val r < val s := by
  obtain ⟨L, k, e, hk, hL, hv⟩ := val_split r
  obtain ⟨M, m, e', hm, hM, hv'⟩ := val_split s
  rw [hv, hv']
  have hLM : L ≤ M := by omega
  rcases Nat.eq_or_lt_of_le hLM with rfl | hlt
  · exact Nat.mul_lt_mul_of_pos_right (by omega) (p2_pos _)
  · have hm2 : 4503599627370496 ≤ m := by omega
    calc k * p2 L < 9007199254740992 * p2 L := Nat.mul_lt_mul_of_pos_right hk (p2_pos _)
      _ = 4503599627370496 * p2 (L + 1) := by rw [p2_succ]; omega
      _ ≤ m * p2 (L + 1) := Nat.mul_le_mul_right _ hm2
      _ ≤ m * p2 M := Nat.mul_le_mul_left _ (p2_le hlt)

theorem val_le {r s : Nat} (h : r ≤ s) : val r ≤ val s := by
  rcases Nat.eq_or_lt_of_le h with rfl | h
  · exact Nat.le_refl _
  · exact Nat.le_of_lt (val_lt h)
theorem val_inj {r s : Nat} (h : val r = val s) : r = s := by
  rcases Nat.lt_trichotomy r s with h1 | h1 | h1
  · have := val_lt h1; omega
  · exact h1
  · have := val_lt h1; omega
theorem lt_of_val_lt {r s : Nat} (h : val r < val s) : r < s := by
  rcases Nat.lt_or_ge r s with h1 | h1
  · exact h1
  · have := val_le h1; omega
theorem val_zero : val 0 = 0 := rfl
theorem val_eq_zero {r : Nat} : val r = 0 ↔ r = 0 := ⟨fun h => val_inj (h.trans val_zero.symm), fun h => by rw [h, val_zero]⟩
theorem val_inf : val 9218868437227405312 = p2 2098 := by
  have := val_LK 2046 4503599627370496 (by omega) (by omega)
  rw [show (2046 * 4503599627370496 + 4503599627370496 : Nat) = 9218868437227405312 by omega] at this
  rw [this, show (4503599627370496 : Nat) = p2 52 from rfl, ← p2_add]

/-! ### words -/
def word (s : Bool) (r : Nat) : Nat := if s then 9223372036854775808 + r else r
theorem word_eq (s : Bool) (r : Nat) : double.word s r = word s r := by unfold Format.word word; rw [D_sw]
theorem neg_word (s : Bool) {r : Nat} (h : r < 9223372036854775808) : neg (word s r) = s := by
  unfold neg word
  cases s
  · have e : r / 9223372036854775808 % 2 = 0 := by omega
    simp [e]
  · have e : (9223372036854775808 + r) / 9223372036854775808 % 2 = 1 := by omega
    rw [if_pos rfl, e]; rfl
theorem rung_word (s : Bool) {r : Nat} (h : r < 9223372036854775808) : rung (word s r) = r := by
  unfold rung word
  cases s <;> simp <;> omega
theorem rung_lt (b : Nat) : rung b < 9223372036854775808 := by unfold rung; omega
theorem word_of {b : Nat} (h : b < 18446744073709551616) : b = word (neg b) (rung b) := by
  unfold word neg rung
  by_cases h1 : b / 9223372036854775808 % 2 = 1
  · simp [h1]; omega
  · simp [h1]; omega

/-! ### reading -/
theorem read_fin {b : Nat} (h : rung b < 9218868437227405312) :
    ∃ (m : Nat) (p : Int), double.read b = .number (neg b) m p ∧ -1074 ≤ p ∧ m * p2 (p + 1074).toNat = val (rung b) := by
  have hn : (b / double.signWeight % 2 == 1) = neg b := by rw [D_sw]; rfl
  have hr : b % double.signWeight = rung b := by rw [D_sw]; rfl
  unfold Format.read
  dsimp only
  rw [hn, hr, D_binade, D_inf, D_least]
  by_cases h1 : rung b < 4503599627370496
  · refine ⟨rung b, -1074, if_pos h1, by omega, ?_⟩
    unfold val; rw [if_pos h1]; exact Nat.mul_one _
  · rw [if_neg h1, if_pos h]
    refine ⟨_, _, rfl, by omega, ?_⟩
    unfold val; rw [if_neg h1]
    congr 2
    omega
theorem read_inf {b : Nat} (h : rung b = 9218868437227405312) : double.read b = .infinity (neg b) := by
  have hn : (b / double.signWeight % 2 == 1) = neg b := by rw [D_sw]; rfl
  have hr : b % double.signWeight = rung b := by rw [D_sw]; rfl
  unfold Format.read
  dsimp only
  rw [hn, hr, D_binade, D_inf, if_neg (by omega), if_neg (by omega), if_pos h]
theorem read_nan {b : Nat} (h : isNaN b) : double.read b = .nan (neg b) (rung b - 9218868437227405312) := by
  have hn : (b / double.signWeight % 2 == 1) = neg b := by rw [D_sw]; rfl
  have hr : b % double.signWeight = rung b := by rw [D_sw]; rfl
  unfold isNaN at h
  unfold Format.read
  dsimp only
  rw [hn, hr, D_binade, D_inf, if_neg (by omega), if_neg (by omega), if_neg (by omega)]

/-! ### order -/
theorem signed_eq (s : Bool) (m k : Nat) : signed s m k = (if s then -1 else 1) * ((m * p2 k : Nat) : Int) := by
  unfold signed
  rw [Nat.shiftLeft_eq, ← p2_eq]
  cases s
  · exact (Int.one_mul _).symm
  · exact (Int.neg_one_mul _).symm

theorem compare_int (a b : Int) : compare a b = if a < b then .lt else if a = b then .eq else .gt := rfl
theorem compare_scale (a b : Int) {c : Int} (hc : 0 < c) : compare (a * c) (b * c) = compare a b := by
  rw [compare_int, compare_int]
  have h1 : a * c < b * c ↔ a < b := Int.mul_lt_mul_right hc
  have h2 : a * c = b * c ↔ a = b := Int.mul_eq_mul_right_iff (by omega)
  simp only [h1, h2]

theorem units_number {b m : Nat} {p : Int} {s : Bool} (hs : s = neg b) (hv : m * p2 (p + 1074).toNat = val (rung b)) : units b = (if s then -1 else 1) * ((m * p2 (p + 1074).toNat : Nat) : Int) := by
  subst hs
  unfold units
  rw [hv]
  cases neg b <;> simp

theorem signed_units {b m : Nat} {p base : Int} (hb : -1074 ≤ base) (hp : base ≤ p) (hv : m * p2 (p + 1074).toNat = val (rung b)) :
    signed (neg b) m (p - base).toNat * ((p2 (base + 1074).toNat : Nat) : Int) = units b := by
  rw [units_number rfl hv, signed_eq, Int.mul_assoc, ← Int.natCast_mul, Nat.mul_assoc, ← p2_add]
  congr 4
  omega

theorem units_lt {b : Nat} (h : rung b < 9218868437227405312) : units b < ((p2 2098 : Nat) : Int) ∧ -((p2 2098 : Nat) : Int) < units b := by
  have := val_lt h
  rw [val_inf] at this
  unfold units
  split <;> omega
theorem units_inf {b : Nat} (h : rung b = 9218868437227405312) : units b = if neg b then -((p2 2098 : Nat) : Int) else ((p2 2098 : Nat) : Int) := by
  unfold units
  rw [h, val_inf]

theorem order_eq {x y : Nat} (hx : ¬ isNaN x) (hy : ¬ isNaN y) : double.order x y = some (compare (units x) (units y)) := by
  unfold isNaN at hx hy
  unfold Format.order
  rcases Nat.eq_or_lt_of_le (show rung x ≤ 9218868437227405312 by omega) with h1 | h1 <;> rcases Nat.eq_or_lt_of_le (show rung y ≤ 9218868437227405312 by omega) with h2 | h2
  · rw [read_inf h1, read_inf h2, units_inf h1, units_inf h2]
    have hq := p2_pos 2098
    generalize p2 2098 = q at *
    cases neg x <;> cases neg y <;> simp only [Datum.order, compare_int, if_true, if_false, Bool.false_eq_true] <;> first | (simp; done) | (rw [if_neg (by omega), if_pos rfl]; rfl) | (rw [if_pos (by omega)]; rfl) | (rw [if_neg (by omega), if_neg (by omega)]; rfl)
  · obtain ⟨m, p, e, hp, hv⟩ := read_fin h2
    have hu := units_lt h2
    rw [read_inf h1, e, units_inf h1]
    cases neg x <;> simp only [Datum.order, compare_int, if_true, if_false, Bool.false_eq_true]
    · rw [if_neg (by omega), if_neg (by omega)]
    · rw [if_pos (by omega)]
  · obtain ⟨m, p, e, hp, hv⟩ := read_fin h1
    have hu := units_lt h1
    rw [read_inf h2, e, units_inf h2]
    cases neg y <;> simp only [Datum.order, compare_int, if_true, if_false, Bool.false_eq_true]
    · rw [if_pos (by omega)]
    · rw [if_neg (by omega), if_neg (by omega)]
  · obtain ⟨m, p, e, hp, hv⟩ := read_fin h1
    obtain ⟨n, q, e', hq, hv'⟩ := read_fin h2
    rw [e, e']
    simp only [Datum.order]
    have hb : -1074 ≤ min p q := by omega
    rw [← signed_units hb (Int.min_le_left p q) hv, ← signed_units hb (Int.min_le_right p q) hv', compare_scale]
    exact Int.natCast_pos.2 (p2_pos _)
theorem order_nan_l {x y : Nat} (h : isNaN x) : double.order x y = none := by
  unfold Format.order
  rw [read_nan h]; rfl
theorem order_nan_r {x y : Nat} (h : isNaN y) : double.order x y = none := by
  unfold Format.order
  rw [read_nan h]
  cases double.read x <;> rfl

/-! ### rounding -/
/-- n / 2^d, to the nearest, to even -/
def rnd (n d : Nat) : Nat := n / p2 d + (if p2 d < 2 * (n % p2 d) ∨ (p2 d = 2 * (n % p2 d) ∧ n / p2 d % 2 = 1) then 1 else 0)

theorem log2_lt (n : Nat) : n < p2 (n.log2 + 1) := Nat.lt_log2_self
theorem log2_self_le {n : Nat} (h : n ≠ 0) : p2 n.log2 ≤ n := Nat.log2_self_le h
theorem log2_two_pow_le {n k : Nat} (h : n < p2 k) (hn : n ≠ 0) : n.log2 < k := (Nat.log2_lt hn).2 h
theorem log2_mul_p2 {n : Nat} (h : n ≠ 0) (k : Nat) : (n * p2 k).log2 = n.log2 + k := by
  have h1 : n * p2 k ≠ 0 := Nat.mul_ne_zero h (by have := p2_pos k; omega)
  have a := log2_self_le h
  have b := log2_lt n
  have hi : (n * p2 k).log2 < n.log2 + k + 1 := log2_two_pow_le (by
    rw [show n.log2 + k + 1 = n.log2 + 1 + k by omega, p2_add]
    exact Nat.mul_lt_mul_of_pos_right b (p2_pos k)) h1
  have lo : p2 (n.log2 + k) ≤ n * p2 k := by rw [p2_add]; exact Nat.mul_le_mul_right _ a
  have b2 := log2_lt (n * p2 k)
  rcases Nat.lt_or_ge (n * p2 k).log2 (n.log2 + k) with hl | hl
  · have := p2_le (show (n * p2 k).log2 + 1 ≤ n.log2 + k by omega); omega
  · omega
theorem cut_even (s : Bool) (n d : Nat) : Toward.even.cut s n d = rnd n d := by
  unfold Toward.cut rnd
  simp only [Nat.shiftLeft_eq, Nat.one_mul, ← p2_eq]
  by_cases h : d ≤ n.log2 + 2
  · rw [Nat.min_eq_left h]
    congr 1
    by_cases h1 : p2 d < 2 * (n % p2 d) ∨ (p2 d = 2 * (n % p2 d) ∧ n / p2 d % 2 = 1)
    · rw [if_pos h1]
      rcases h1 with h1 | ⟨h1, h2⟩
      · simp [h1]
      · simp [← h1, h2]
    · rw [if_neg h1]
      have h2 : (decide (p2 d < 2 * (n % p2 d)) || (p2 d == 2 * (n % p2 d) && n / p2 d % 2 == 1)) = false := by
        rw [Bool.or_eq_false_iff]
        refine ⟨by simpa using fun h => h1 (.inl h), ?_⟩
        rw [Bool.and_eq_false_iff]
        by_cases e : p2 d = 2 * (n % p2 d)
        · right
          by_cases e2 : n / p2 d % 2 = 1
          · exact absurd (.inr ⟨e, e2⟩) h1
          · simpa using e2
        · left; simpa using e
      rw [h2]; rfl
  · have hn := log2_lt n
    have h2 : n < p2 (n.log2 + 2) := by rw [p2_succ]; omega
    have h3 : p2 (n.log2 + 2) ≤ p2 d := p2_le (by omega)
    have h4 : 2 * n < p2 (n.log2 + 2) := by rw [p2_succ]; omega
    rw [Nat.min_eq_right (by omega), Nat.div_eq_of_lt h2, Nat.mod_eq_of_lt h2, Nat.div_eq_of_lt (by omega : n < p2 d), Nat.mod_eq_of_lt (by omega : n < p2 d)]
    rw [if_neg (by omega)]
    have h5 : (decide (p2 (n.log2 + 2) < 2 * n) || (p2 (n.log2 + 2) == 2 * n && (0 : Nat) % 2 == 1)) = false := by
      rw [Bool.or_eq_false_iff]
      exact ⟨by simp; omega, by simp⟩
    rw [h5]; rfl

theorem rnd_scale (n d k : Nat) : rnd (n * p2 k) (d + k) = rnd n d := by
  unfold rnd
  have hk := p2_pos k
  have e1 : n * p2 k / p2 (d + k) = n / p2 d := by rw [p2_add, Nat.mul_div_mul_right _ _ hk]
  have e2 : n * p2 k % p2 (d + k) = n % p2 d * p2 k := by rw [p2_add, Nat.mul_mod_mul_right]
  rw [e1, e2, p2_add]
  have a1 : (p2 d * p2 k < 2 * (n % p2 d * p2 k)) ↔ p2 d < 2 * (n % p2 d) := by
    rw [← Nat.mul_assoc]; exact Nat.mul_lt_mul_right hk
  have a2 : (p2 d * p2 k = 2 * (n % p2 d * p2 k)) ↔ p2 d = 2 * (n % p2 d) := by
    rw [← Nat.mul_assoc]; exact Nat.mul_left_inj (by omega)
  simp only [a1, a2]
theorem rnd_zero (n : Nat) : rnd n 0 = n := by
  unfold rnd
  rw [p2_zero, Nat.mod_one, Nat.div_one, if_neg (by omega)]; rfl
theorem rnd_dvd {n d : Nat} (h : p2 d ∣ n) : rnd n d * p2 d = n := by
  obtain ⟨c, rfl⟩ := h
  have hd := p2_pos d
  unfold rnd
  rw [Nat.mul_mod_right, Nat.mul_div_cancel_left _ hd, if_neg (by omega), Nat.add_zero, Nat.mul_comm]

/-- the place (above the least one) of the last digit that is kept, of the number X in units of 2^-K -/
def lastOf (K X : Nat) : Nat := max (X.log2 - 52) (K - 1074)
/-- the rung that is nearest to X units of 2^-K (no bound above) -/
def nearRung (K X : Nat) : Nat := (lastOf K X - (K - 1074)) * 4503599627370496 + rnd X (lastOf K X)

theorem nearest_eq (s : Bool) {mag : Nat} {place : Int} {K : Nat} (h0 : mag ≠ 0) (hK : 1074 ≤ K) (hp : 0 ≤ place + K) :
    double.nearest s mag place = word s (min (nearRung K (mag * p2 (place + K).toNat)) 9218868437227405312) := by
  have hX : mag * p2 (place + K).toNat ≠ 0 := Nat.mul_ne_zero h0 (by have := p2_pos (place + K).toNat; omega)
  have hlog : (mag * p2 (place + K).toNat).log2 = mag.log2 + (place + K).toNat := log2_mul_p2 h0 _
  unfold Format.nearest
  rw [if_neg h0]
  dsimp only
  rw [D_least, D_binade, D_inf, D_frac, word_eq, cut_even]
  generalize hL : max (place + (mag.log2 : Int) - ((52 : Nat) : Int)) (-1074) = last
  have hl1 : (lastOf K (mag * p2 (place + K).toNat) : Int) = last + K := by
    unfold lastOf; rw [hlog]; omega
  have hl2 : -1074 ≤ last := by omega
  unfold nearRung
  generalize hLo : lastOf K (mag * p2 (place + K).toNat) = Lo at hl1 ⊢
  have e1 : (last - -1074).toNat = Lo - (K - 1074) := by omega
  have e2 : rnd (mag <<< (place - last).toNat) (last - place).toNat = rnd (mag * p2 (place + K).toNat) Lo := by
    rw [Nat.shiftLeft_eq]
    by_cases h : place ≤ last
    · rw [show (place - last).toNat = 0 by omega, Nat.pow_zero, Nat.mul_one]
      have := rnd_scale mag (last - place).toNat (place + K).toNat
      rw [← this]
      congr 1
      omega
    · rw [show (last - place).toNat = 0 by omega, rnd_zero]
      have hd : mag * p2 (place + K).toNat = (mag * p2 (place - last).toNat) * p2 Lo := by
        rw [Nat.mul_assoc, ← p2_add]
        congr 2
        omega
      rw [hd]
      have h3 := rnd_dvd (n := mag * p2 (place - last).toNat * p2 Lo) (d := Lo) ⟨_, Nat.mul_comm _ _⟩
      exact (Nat.mul_right_cancel (p2_pos Lo) h3).symm
  rw [e1, e2]

/-- what a rounded number comes to -/
theorem val_nearRung {K X : Nat} (hX : X ≠ 0) (hK : 1074 ≤ K) : val (nearRung K X) * p2 (K - 1074) = rnd X (lastOf K X) * p2 (lastOf K X) := by
  unfold nearRung
  have hl : lastOf K X = max (X.log2 - 52) (K - 1074) := rfl
  generalize lastOf K X = L at hl ⊢
  have hlog := log2_lt X
  have hlo : p2 X.log2 ≤ X := log2_self_le hX
  have hpow : p2 (X.log2 + 1) ≤ p2 (L + 53) := p2_le (by omega)
  have hdiv : X / p2 L < 9007199254740992 := by
    rw [Nat.div_lt_iff_lt_mul (p2_pos L)]
    calc X < p2 (L + 53) := by omega
      _ = 9007199254740992 * p2 L := by rw [p2_add, Nat.mul_comm, p2_53]
  have hr : rnd X L ≤ 9007199254740992 := by unfold rnd; split <;> omega
  have hk : L - (K - 1074) = 0 ∨ 4503599627370496 ≤ rnd X L := by
    by_cases h : L = K - 1074
    · left; omega
    · right
      have hL2 : L = X.log2 - 52 := by omega
      have : 4503599627370496 ≤ X / p2 L := by
        rw [Nat.le_div_iff_mul_le (p2_pos L)]
        calc 4503599627370496 * p2 L = p2 (52 + L) := by rw [p2_add, p2_52]
          _ ≤ p2 X.log2 := p2_le (by omega)
          _ ≤ X := hlo
      unfold rnd; omega
  rw [val_LK _ _ hr hk, Nat.mul_assoc, ← p2_add, show L - (K - 1074) + (K - 1074) = L by omega]

/-- v (units of two to the -1074) is a finite double's magnitude -/
def Rep (v : Nat) : Prop := v < p2 2098 ∧ ∃ m e, m < 9007199254740992 ∧ v = m * p2 e

/-- b is the double of sign s and magnitude v -/
def Is (b : Nat) (s : Bool) (v : Nat) : Prop := ∃ r, r < 9218868437227405312 ∧ b = word s r ∧ val r = v

theorem Is.neg_ {b : Nat} {s : Bool} {v : Nat} (h : Is b s v) : neg b = s := by
  obtain ⟨r, hr, rfl, _⟩ := h; exact neg_word s (by omega)
theorem Is.rung_ {b : Nat} {s : Bool} {v : Nat} (h : Is b s v) : rung b < 9218868437227405312 ∧ val (rung b) = v := by
  obtain ⟨r, hr, rfl, hv⟩ := h; rw [rung_word s (by omega)]; exact ⟨hr, hv⟩
theorem Is.units_ {b : Nat} {s : Bool} {v : Nat} (h : Is b s v) : units b = if s then -(v : Int) else v := by
  unfold units; rw [h.neg_, h.rung_.2]
theorem Is.not_nan {b : Nat} {s : Bool} {v : Nat} (h : Is b s v) : ¬ isNaN b := by
  have := h.rung_.1; unfold isNaN; omega
theorem Is.unique {b c : Nat} {s : Bool} {v : Nat} (h : Is b s v) (k : Is c s v) : b = c := by
  obtain ⟨r, _, rfl, hv⟩ := h; obtain ⟨r', _, rfl, hv'⟩ := k
  rw [val_inj (hv.trans hv'.symm)]
theorem Is.of_fin {b : Nat} (hb : b < 18446744073709551616) (h : rung b < 9218868437227405312) : Is b (neg b) (val (rung b)) := ⟨rung b, h, word_of hb, rfl⟩
theorem Is.rep {b : Nat} {s : Bool} {v : Nat} (h : Is b s v) : Rep v := by
  obtain ⟨r, hr, rfl, rfl⟩ := h
  obtain ⟨L, k, _, hk, _, hv⟩ := val_split r
  refine ⟨?_, k, L, hk, hv⟩
  rw [← val_inf]; exact val_lt hr

/-- a number that the format has is met exactly -/
theorem near_exact {K X v : Nat} (hK : 1074 ≤ K) (hX : X ≠ 0) (hv : X = v * p2 (K - 1074)) (hr : Rep v) : val (nearRung K X) = v ∧ nearRung K X < 9218868437227405312 := by
  obtain ⟨hlt, m, e, hm, rfl⟩ := hr
  have hm0 : m ≠ 0 := by rintro rfl; simp at hv; exact hX hv
  have hXe : X = m * p2 (e + (K - 1074)) := by rw [hv, Nat.mul_assoc, ← p2_add]
  have hlog : X.log2 = m.log2 + (e + (K - 1074)) := by rw [hXe, log2_mul_p2 hm0 _]
  have hml : m.log2 < 53 := log2_two_pow_le (show m < p2 53 from hm) hm0
  have hL : lastOf K X ≤ e + (K - 1074) := by unfold lastOf; omega
  have hd : p2 (lastOf K X) ∣ X := by
    exact Nat.dvd_trans (p2_dvd hL) ⟨m, by rw [hXe, Nat.mul_comm]⟩
  have h1 := val_nearRung hX hK
  rw [rnd_dvd hd, hv] at h1
  have h2 : val (nearRung K X) = m * p2 e := Nat.mul_right_cancel (p2_pos _) (by rw [← hv] at h1 ⊢; rw [hv] at h1 ⊢; exact h1)
  refine ⟨h2, lt_of_val_lt ?_⟩
  rw [h2, val_inf]; exact hlt

theorem nearest_exact (s : Bool) {mag : Nat} {place : Int} {K v : Nat} (hK : 1074 ≤ K) (hp : 0 ≤ place + K) (hv : mag * p2 (place + K).toNat = v * p2 (K - 1074)) (hr : Rep v) :
    Is (double.nearest s mag place) s v := by
  by_cases h0 : mag = 0
  · subst h0
    have : v = 0 := by
      have h1 := p2_pos (K - 1074)
      simp only [Nat.zero_mul] at hv
      rcases Nat.mul_eq_zero.1 hv.symm with h | h
      · exact h
      · omega
    subst this
    refine ⟨0, by omega, ?_, val_zero⟩
    unfold Format.nearest; rw [if_pos rfl, word_eq]
  · have hX : mag * p2 (place + K).toNat ≠ 0 := Nat.mul_ne_zero h0 (by have := p2_pos (place + K).toNat; omega)
    obtain ⟨h1, h2⟩ := near_exact hK hX hv hr
    refine ⟨_, h2, ?_, h1⟩
    rw [nearest_eq s h0 hK hp, Nat.min_eq_left (by omega)]

/-- whole numbers -/
theorem rep_nat {n : Nat} (h : n ≤ 9007199254740992) : Rep (n * p2 1074) := by
  refine ⟨?_, ?_⟩
  · calc n * p2 1074 ≤ p2 53 * p2 1074 := Nat.mul_le_mul_right _ (by rw [p2_53]; exact h)
      _ = p2 1127 := by rw [← p2_add]
      _ < p2 2098 := p2_lt (by omega)
  · by_cases hn : n = 9007199254740992
    · exact ⟨1, 53 + 1074, by omega, by rw [p2_add, hn, p2_53, Nat.one_mul]⟩
    · exact ⟨n, 1074, by omega, rfl⟩

theorem ofInt_is {n : Int} (h : n.natAbs ≤ 9007199254740992) : Is (double.nearest (n < 0) n.natAbs 0) (n < 0) (n.natAbs * p2 1074) :=
  nearest_exact (K := 1074) _ (by omega) (by omega) (by rw [show ((0 : Int) + ((1074 : Nat) : Int)).toNat = 1074 from rfl, Nat.sub_self, p2_zero, Nat.mul_one]) (rep_nat h)

theorem ofInt_units {n : Int} (h : n.natAbs ≤ 9007199254740992) : units (double.nearest (n < 0) n.natAbs 0) = n * ((p2 1074 : Nat) : Int) := by
  rw [(ofInt_is h).units_]
  by_cases hn : n < 0
  · simp only [hn, decide_true, if_true, Int.natCast_mul]
    rw [← Int.neg_mul, show -(n.natAbs : Int) = n by omega]
  · simp only [hn, decide_false, Bool.false_eq_true, if_false, Int.natCast_mul]
    rw [show (n.natAbs : Int) = n by omega]

/-- THE ORDER OF WHOLE NUMBERS MADE REAL -/
theorem order_ofInt {a b : Int} (ha : a.natAbs ≤ 9007199254740992) (hb : b.natAbs ≤ 9007199254740992) :
    double.order (double.nearest (a < 0) a.natAbs 0) (double.nearest (b < 0) b.natAbs 0) = some (compare a b) := by
  rw [order_eq (ofInt_is ha).not_nan (ofInt_is hb).not_nan, ofInt_units ha, ofInt_units hb, compare_scale]
  exact Int.natCast_pos.2 (p2_pos _)
end Fl
