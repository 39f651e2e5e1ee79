/-
  PLAIN LAWS ON IEEE DOUBLES: how far a quotient is from the true one, and that decimal numbers keep their order. No program in this text.
-/
import Derived.Test.YtikcabmohlaanaaFlo2
import Derived.Test.YtikcabmohlaanaaFlo3
namespace Fl
open Ieee

theorem quot_bounds {m n more : Nat} (hm : m ≠ 0) (hn : n ≠ 0) (h : more + m.log2 = 54 + n.log2) :
    p2 54 ≤ 2 * (m * p2 more / n) + (m * p2 more % n != 0).toNat ∧
    (2 * (m * p2 more / n) + (m * p2 more % n != 0).toNat) * n ≤ 2 * (m * p2 more) + n ∧
    2 * (m * p2 more) ≤ (2 * (m * p2 more / n) + (m * p2 more % n != 0).toNat) * n + n := by
  have hn0 : 0 < n := by omega
  have hq : p2 53 ≤ m * p2 more / n := by
    rw [Nat.le_div_iff_mul_le hn0]
    calc p2 53 * n ≤ p2 53 * p2 (n.log2 + 1) := Nat.mul_le_mul_left _ (Nat.le_of_lt (log2_lt n))
      _ = p2 (m.log2 + more) := by rw [← p2_add]; congr 1; omega
      _ = p2 m.log2 * p2 more := p2_add _ _
      _ ≤ m * p2 more := Nat.mul_le_mul_right _ (log2_self_le hm)
  have h54 : p2 54 = p2 53 * 2 := p2_succ 53
  have hd := Nat.div_add_mod (m * p2 more) n
  have hr := Nat.mod_lt (m * p2 more) hn0
  generalize m * p2 more / n = q at *
  generalize m * p2 more % n = r at *
  generalize m * p2 more = D at *
  rw [Nat.mul_comm n q] at hd
  by_cases h0 : r = 0
  · subst h0
    simp only [bne_self_eq_false, Bool.toNat_false, Nat.add_zero]
    rw [Nat.mul_assoc]
    omega
  · have e : (r != 0) = true := by simpa using h0
    rw [e, Bool.toNat_true, Nat.add_mul, Nat.mul_assoc, Nat.one_mul]
    omega

theorem rnd_bounds (X L : Nat) : rnd X L * p2 L * 2 ≤ 2 * X + p2 L ∧ 2 * X ≤ rnd X L * p2 L * 2 + p2 L := by
  have hd := Nat.div_add_mod X (p2 L)
  have hr := Nat.mod_lt X (p2_pos L)
  unfold rnd
  generalize X / p2 L = q at *
  generalize X % p2 L = r at *
  rw [Nat.mul_comm (p2 L) q] at hd
  split
  · rename_i h
    rw [Nat.add_mul, Nat.one_mul]
    generalize p2 L = d at *
    generalize q * d = z at *
    omega
  · rename_i h
    rw [Nat.add_zero]
    generalize p2 L = d at *
    generalize q * d = z at *
    omega

theorem lin1 {V X d : Nat} (r1 : V * 2 ≤ 2 * X + d) (r2 : 2 * X ≤ V * 2 + d) (h : d * 4503599627370496 ≤ X) : V * 9007199254740992 ≤ X * 9007199254740992 + X ∧ X * 9007199254740992 ≤ V * 9007199254740992 + X := by omega
theorem lin2 {c1 c2 c3 : Nat} (z1 : c3 * 18014398509481984 ≤ c2 * 18014398509481984 + c3) (z2 : c2 * 18014398509481984 ≤ c3 * 18014398509481984 + c3) (w1 : c1 * 9007199254740992 ≤ c3 * 9007199254740992 + c3) (w2 : c3 * 9007199254740992 ≤ c1 * 9007199254740992 + c3) :
    c1 * 4503599627370496 ≤ c2 * 4503599627370496 + c2 ∧ c2 * 4503599627370496 ≤ c1 * 4503599627370496 + c2 := by omega
theorem lin3 {v vt c1 c3 q r : Nat} (h1 : v * 1 ≤ vt) (h2 : c1 ≤ c3) (h3 : c3 * 2 = q) (h4 : q < r) (h5 : vt * 4503599627370496 ≤ c1 * 4503599627370496 + c1) : v < r := by omega
theorem lin4 {c2 c5 c6 c1 : Nat} (h1 : c2 ≤ c6) (h2 : c5 ≤ c1) (h5 : c6 * 4 ≤ c5) (h6 : 0 < c6) (z2 : c1 * 18014398509481984 ≤ c2 * 18014398509481984 + c2) : False := by omega

theorem div_near {x y a t : Nat} {s : Bool} (hx : Is x s (a * p2 1074)) (hy : Is y false (t * p2 1074)) (ha : 1 ≤ a) (ha2 : a ≤ p2 53) (ht : 1 ≤ t) (ht2 : t ≤ p2 53) :
    ∃ r v, double.div x y = some r ∧ Is r s v ∧ v * t * p2 52 ≤ a * p2 1074 * p2 52 + a * p2 1074 ∧ a * p2 1074 * p2 52 ≤ v * t * p2 52 + a * p2 1074 := by
  obtain ⟨m, i, e, hi, hm⟩ := read_fin hx.rung_.1
  obtain ⟨n, j, e', hj, hn⟩ := read_fin hy.rung_.1
  rw [hx.rung_.2] at hm
  rw [hy.rung_.2] at hn
  rw [hx.neg_] at e
  rw [hy.neg_] at e'
  obtain ⟨hm53, hi2⟩ := read_mag e
  obtain ⟨hn53, hj2⟩ := read_mag e'
  have hU := p2_pos 1074
  have hm0 : m ≠ 0 := by
    rintro rfl
    rw [Nat.zero_mul] at hm
    have : 1 * p2 1074 ≤ a * p2 1074 := Nat.mul_le_mul_right _ ha
    omega
  have hn0 : n ≠ 0 := by
    rintro rfl
    rw [Nat.zero_mul] at hn
    have : 1 * p2 1074 ≤ t * p2 1074 := Nat.mul_le_mul_right _ ht
    omega
  have hml : m.log2 < 53 := log2_two_pow_le (show m < p2 53 from hm53) hm0
  have hnl : n.log2 < 53 := log2_two_pow_le (show n < p2 53 from hn53) hn0
  obtain ⟨more, hmore⟩ : ∃ k, k = 52 + 2 + n.log2 - m.log2 := ⟨_, rfl⟩
  have hmr : more + m.log2 = 54 + n.log2 := by omega
  obtain ⟨q1, q2, q3⟩ := quot_bounds hm0 hn0 hmr
  obtain ⟨mag, hmag⟩ : ∃ k, k = 2 * (m * p2 more / n) + (m * p2 more % n != 0).toNat := ⟨_, rfl⟩
  rw [← hmag] at q1 q2 q3
  obtain ⟨place, hplace⟩ : ∃ k : Int, k = i - j - (more : Int) - 1 := ⟨_, rfl⟩
  have hdiv : double.div x y = some (double.nearest s mag place) := by
    unfold Format.div
    rw [e, e', D_frac]
    simp only [Datum.quotient, Nat.shiftLeft_eq, ← p2_eq]
    rw [if_neg hn0, ← hmore, ← hmag]
    simp only [Option.map_some, Format.write, Bool.xor_false, ← hplace]
  have hmag0 : mag ≠ 0 := by have := p2_pos 54; omega
  obtain ⟨K, hK⟩ : ∃ K : Nat, K = 4000 := ⟨_, rfl⟩
  have hpK : 0 ≤ place + (K : Int) := by omega
  have hX0 : mag * p2 (place + (K : Int)).toNat ≠ 0 := Nat.mul_ne_zero hmag0 (by have := p2_pos (place + (K : Int)).toNat; omega)
  have hnear := nearest_eq s hmag0 (K := K) (by omega) hpK
  obtain ⟨X, hX⟩ : ∃ k, k = mag * p2 (place + (K : Int)).toNat := ⟨_, rfl⟩
  rw [← hX] at hnear hX0
  have hval := val_nearRung (K := K) hX0 (by omega)
  obtain ⟨u, hu⟩ : ∃ u : Nat, u = (i + 1074 - (more : Int) - 1 + (K : Int)).toNat := ⟨_, rfl⟩
  obtain ⟨Q, hQ⟩ : ∃ k, k = p2 u := ⟨_, rfl⟩
  have e1 : (place + (K : Int)).toNat + (j + 1074).toNat = u := by omega
  have e2 : (i + 1074).toNat + K = more + 1 + u := by omega
  have hZ : X * (t * p2 1074) = mag * n * Q := by
    calc X * (t * p2 1074) = mag * p2 (place + (K : Int)).toNat * (n * p2 (j + 1074).toNat) := by rw [hX, hn]
      _ = mag * n * (p2 (place + (K : Int)).toNat * p2 (j + 1074).toNat) := Nat.mul_mul_mul_comm _ _ _ _
      _ = mag * n * Q := by rw [← p2_add, e1, hQ]
  have hT : a * p2 1074 * p2 K = 2 * (m * p2 more) * Q := by
    calc a * p2 1074 * p2 K = m * p2 (i + 1074).toNat * p2 K := by rw [hm]
      _ = m * p2 ((i + 1074).toNat + K) := by rw [Nat.mul_assoc, ← p2_add]
      _ = m * (p2 more * 2 * Q) := by rw [e2, p2_add, p2_succ, hQ]
      _ = 2 * (m * p2 more) * Q := by rw [← Nat.mul_assoc, ← Nat.mul_assoc, Nat.mul_comm 2 (m * p2 more)]
  have z1 : X * (t * p2 1074) * p2 54 ≤ a * p2 1074 * p2 K * p2 54 + X * (t * p2 1074) := by
    have h1 : mag * n * p2 54 ≤ 2 * (m * p2 more) * p2 54 + mag * n := by
      have h2 := Nat.mul_le_mul_right (p2 54) q2
      have h3 : n * p2 54 ≤ n * mag := Nat.mul_le_mul_left _ q1
      rw [Nat.add_mul] at h2
      rw [Nat.mul_comm n mag] at h3
      omega
    have h4 := Nat.mul_le_mul_right Q h1
    rw [hZ, hT, Nat.mul_right_comm (mag * n) Q, Nat.mul_right_comm (2 * (m * p2 more)) Q]
    rwa [Nat.add_mul] at h4
  have z2 : a * p2 1074 * p2 K * p2 54 ≤ X * (t * p2 1074) * p2 54 + X * (t * p2 1074) := by
    have h1 : 2 * (m * p2 more) * p2 54 ≤ mag * n * p2 54 + mag * n := by
      have h2 := Nat.mul_le_mul_right (p2 54) q3
      have h3 : n * p2 54 ≤ n * mag := Nat.mul_le_mul_left _ q1
      rw [Nat.add_mul] at h2
      rw [Nat.mul_comm n mag] at h3
      omega
    have h4 := Nat.mul_le_mul_right Q h1
    rw [hZ, hT, Nat.mul_right_comm (mag * n) Q, Nat.mul_right_comm (2 * (m * p2 more)) Q]
    rwa [Nat.add_mul] at h4
  clear hZ hT q1 q2 q3
  have e54 : p2 54 = 18014398509481984 := rfl
  have e52 : p2 52 = 4503599627370496 := rfl
  have e53 : p2 53 = 9007199254740992 := rfl
  -- the size of X
  have hbig : p2 (K - 1022) ≤ X := by
    rcases Nat.lt_or_ge X (p2 (K - 1022)) with hlt | hge
    · exfalso
      have h1 : X * (t * p2 1074) ≤ p2 (K - 1022) * (p2 53 * p2 1074) := Nat.mul_le_mul (Nat.le_of_lt hlt) (Nat.mul_le_mul_right _ ht2)
      have h2 : 1 * p2 1074 * p2 K ≤ a * p2 1074 * p2 K := Nat.mul_le_mul_right _ (Nat.mul_le_mul_right _ ha)
      obtain ⟨q, hq⟩ : ∃ q, q = K + 105 := ⟨_, rfl⟩
      obtain ⟨q', hq'⟩ : ∃ q', q' = 969 := ⟨_, rfl⟩
      have e3 : K - 1022 + (53 + 1074) = q := by omega
      have e4 : 1074 + K = q + q' := by omega
      have h3 : p2 (K - 1022) * (p2 53 * p2 1074) = p2 q := by rw [← p2_add, ← p2_add, e3]
      have h4 : 1 * p2 1074 * p2 K = p2 q * p2 q' := by rw [Nat.one_mul, ← p2_add, ← p2_add, e4]
      have h5 : p2 q * p2 2 ≤ p2 q * p2 q' := Nat.mul_le_mul_left _ (p2_le (by omega))
      rw [show p2 2 = 4 from rfl] at h5
      have h6 := p2_pos q
      rw [h3] at h1
      rw [h4] at h2
      rw [e54] at z2
      exact lin4 h1 h2 h5 h6 z2
    · exact hge
  have hlog : K - 1022 ≤ X.log2 := by
    have hl := log2_lt X
    rcases Nat.lt_or_ge X.log2 (K - 1022) with h | h
    · have := p2_le (show X.log2 + 1 ≤ K - 1022 by omega)
      omega
    · exact h
  have hL : lastOf K X = X.log2 - 52 := by unfold lastOf; omega
  rw [hL] at hval
  have hpl : p2 (X.log2 - 52) * p2 52 ≤ X := by
    rw [← p2_add, show X.log2 - 52 + 52 = X.log2 by omega]
    exact log2_self_le hX0
  obtain ⟨r1, r2⟩ := rnd_bounds X (X.log2 - 52)
  rw [← hval] at r1 r2
  obtain ⟨v, hv⟩ : ∃ v, v = val (nearRung K X) := ⟨_, rfl⟩
  rw [← hv] at r1 r2 hval
  generalize p2 (X.log2 - 52) = d at r1 r2 hpl
  -- all times y
  have k4000 : p2 K = p2 1074 * p2 (K - 1074) := by rw [← p2_add, show 1074 + (K - 1074) = K by omega]
  have key : v * t * p2 52 ≤ a * p2 1074 * p2 52 + a * p2 1074 ∧ a * p2 1074 * p2 52 ≤ v * t * p2 52 + a * p2 1074 := by
    rw [e52] at hpl
    have w12 := lin1 r1 r2 hpl
    rw [← e53] at w12
    obtain ⟨w1, w2⟩ := w12
    have w1' := Nat.mul_le_mul_right (t * p2 1074) w1
    have w2' := Nat.mul_le_mul_right (t * p2 1074) w2
    rw [Nat.add_mul, Nat.mul_right_comm (v * p2 (K - 1074)) (p2 53), Nat.mul_right_comm X (p2 53)] at w1'
    rw [Nat.add_mul, Nat.mul_right_comm (v * p2 (K - 1074)) (p2 53), Nat.mul_right_comm X (p2 53)] at w2'
    have hV : v * p2 (K - 1074) * (t * p2 1074) = v * t * p2 K := by
      rw [k4000, Nat.mul_assoc, Nat.mul_assoc, Nat.mul_comm (p2 (K - 1074)), Nat.mul_assoc]
    rw [hV] at w1' w2'
    have pk := p2_pos K
    rw [e54] at z1 z2
    rw [e53] at w1' w2'
    rw [e52]
    obtain ⟨g1, g2⟩ := lin2 z1 z2 w1' w2'
    constructor
    · refine Nat.le_of_mul_le_mul_right ?_ pk
      rw [Nat.add_mul, Nat.mul_right_comm (v * t), Nat.mul_right_comm (a * p2 1074)]
      exact g1
    · refine Nat.le_of_mul_le_mul_right ?_ pk
      rw [Nat.add_mul, Nat.mul_right_comm (v * t), Nat.mul_right_comm (a * p2 1074)]
      exact g2
  have hfin : nearRung K X < 9218868437227405312 := by
    refine lt_of_val_lt ?_
    rw [← hv, val_inf]
    have h1 : v * 1 ≤ v * t := Nat.mul_le_mul_left _ ht
    have h2 : a * p2 1074 ≤ p2 53 * p2 1074 := Nat.mul_le_mul_right _ ha2
    obtain ⟨q, hq⟩ : ∃ q, q = 53 + 1074 + 1 := ⟨_, rfl⟩
    have h3 : p2 53 * p2 1074 * 2 = p2 q := by rw [← p2_add, ← p2_succ, hq]
    have h4 : p2 q < p2 2098 := p2_lt (by omega)
    have h5 := key.1
    rw [e52] at h5
    exact lin3 h1 h2 h3 h4 h5
  refine ⟨_, v, hdiv, ⟨nearRung K X, hfin, ?_, hv.symm⟩, key⟩
  rw [hnear, Nat.min_eq_left (by omega)]

theorem div_null {x y t : Nat} {s : Bool} (hx : Is x s 0) (hy : Is y false (t * p2 1074)) (ht : 1 ≤ t) : ∃ r, double.div x y = some r ∧ Is r s 0 := by
  obtain ⟨m, i, e, hi, hm⟩ := read_fin hx.rung_.1
  obtain ⟨n, j, e', hj, hn⟩ := read_fin hy.rung_.1
  rw [hx.rung_.2] at hm
  rw [hy.rung_.2] at hn
  rw [hx.neg_] at e
  rw [hy.neg_] at e'
  have hU := p2_pos 1074
  have hm0 : m = 0 := by
    rcases Nat.mul_eq_zero.1 hm with h | h
    · exact h
    · have := p2_pos (i + 1074).toNat; omega
  subst hm0
  have hn0 : n ≠ 0 := by
    rintro rfl
    rw [Nat.zero_mul] at hn
    have : 1 * p2 1074 ≤ t * p2 1074 := Nat.mul_le_mul_right _ ht
    omega
  refine ⟨_, ?_, ⟨0, by omega, rfl, val_zero⟩⟩
  unfold Format.div
  rw [e, e']
  simp only [Datum.quotient]
  rw [if_neg hn0]
  simp only [Nat.zero_shiftLeft, Nat.zero_div, Nat.zero_mod, bne_self_eq_false, Bool.toNat_false, Nat.mul_zero, Nat.add_zero, Option.map_some, Format.write, Bool.xor_false]
  unfold Format.nearest
  rw [if_pos rfl, word_eq]

/-- r is within its rounding of A millionths -/
def Near (r : Nat) (A : Int) : Prop := r < 18446744073709551616 ∧ ¬ isNaN r ∧
  units r * 1000000 * 4503599627370496 ≤ A * (p2 1074 : Nat) * 4503599627370496 + (A.natAbs : Int) * (p2 1074 : Nat) ∧
  A * (p2 1074 : Nat) * 4503599627370496 ≤ units r * 1000000 * 4503599627370496 + (A.natAbs : Int) * (p2 1074 : Nat)

theorem Is.lt {b v : Nat} {s : Bool} (h : Is b s v) : b < 18446744073709551616 := by
  obtain ⟨r, hr, rfl, _⟩ := h
  unfold word; split <;> omega

theorem dec_near {n : Int} {t c : Nat} (hn : n.natAbs ≤ 999999999) (htc : t * c = 1000000) : ∃ r, double.div (Go.floatOfInt .f64 n) (Go.floatOfInt .f64 (t : Int)) = some r ∧ Near r (n * (c : Int)) := by
  have ht1 : 1 ≤ t := by
    rcases Nat.eq_zero_or_pos t with h | h
    · subst h; omega
    · exact h
  have hc1 : 1 ≤ c := by
    rcases Nat.eq_zero_or_pos c with h | h
    · subst h; omega
    · exact h
  have htle : t ≤ 1000000 := by
    have := Nat.mul_le_mul_left t hc1; omega
  have hx := fo_is (n := n) (by omega)
  have hy := fo_is (n := (t : Int)) (by omega)
  rw [show decide ((t : Int) < 0) = false by simp, Int.natAbs_natCast] at hy
  by_cases h0 : n = 0
  · subst h0
    rw [show (0 : Int).natAbs * p2 1074 = 0 by simp] at hx
    obtain ⟨r, h1, h2⟩ := div_null hx hy ht1
    refine ⟨r, h1, h2.lt, h2.not_nan, ?_⟩
    rw [h2.units_]
    simp
  · have ha1 : 1 ≤ n.natAbs := by omega
    obtain ⟨r, v, h1, h2, h3, h4⟩ := div_near hx hy ha1 (by rw [p2_53]; omega) ht1 (by rw [p2_53]; omega)
    refine ⟨r, h1, h2.lt, h2.not_nan, ?_⟩
    have h3' := Nat.mul_le_mul_right c h3
    have h4' := Nat.mul_le_mul_right c h4
    have e1 : v * t * p2 52 * c = v * 1000000 * 4503599627370496 := by
      rw [Nat.mul_right_comm (v * t), Nat.mul_assoc v, htc, p2_52]
    have e2 : n.natAbs * p2 1074 * c = n.natAbs * c * p2 1074 := Nat.mul_right_comm _ _ _
    have e3 : n.natAbs * p2 1074 * p2 52 * c = n.natAbs * c * p2 1074 * 4503599627370496 := by
      rw [Nat.mul_right_comm _ (p2 52), e2, p2_52]
    rw [Nat.add_mul, e1, e2, e3] at h3'
    rw [Nat.add_mul, e1, e2, e3] at h4'
    have ea : (n * (c : Int)).natAbs = n.natAbs * c := by rw [Int.natAbs_mul, Int.natAbs_natCast]
    rw [h2.units_, ea]
    have hz : (((n.natAbs * c * p2 1074 : Nat)) : Int) = ((n.natAbs * c : Nat) : Int) * ((p2 1074 : Nat) : Int) := Int.natCast_mul _ _
    rw [← hz]
    by_cases hneg : n < 0
    · have ei : n * (c : Int) * ((p2 1074 : Nat) : Int) = -((n.natAbs * c * p2 1074 : Nat) : Int) := by
        have : n = -((n.natAbs : Nat) : Int) := by omega
        rw [Int.natCast_mul, Int.natCast_mul, ← Int.neg_mul, ← Int.neg_mul, ← this]
      rw [ei, if_pos (decide_eq_true hneg)]
      generalize n.natAbs * c * p2 1074 = z at *
      omega
    · have ei : n * (c : Int) * ((p2 1074 : Nat) : Int) = ((n.natAbs * c * p2 1074 : Nat) : Int) := by
        have : n = ((n.natAbs : Nat) : Int) := by omega
        rw [Int.natCast_mul, Int.natCast_mul, ← this]
      rw [ei, if_neg (by simpa using hneg)]
      generalize n.natAbs * c * p2 1074 = z at *
      omega

theorem near_lt {r r' : Nat} {A B : Int} (h : Near r A) (h' : Near r' B) (hA : A.natAbs ≤ 1000000000000000) (hB : B.natAbs ≤ 1000000000000000) (hlt : A < B) : units r < units r' := by
  obtain ⟨_, _, h1, _⟩ := h
  obtain ⟨_, _, _, h2⟩ := h'
  have hU := p2_pos 1074
  generalize p2 1074 = U at *
  have a1 : (A.natAbs : Int) * (U : Int) ≤ 1000000000000000 * (U : Int) := Int.mul_le_mul_of_nonneg_right (by omega) (by omega)
  have b1 : (B.natAbs : Int) * (U : Int) ≤ 1000000000000000 * (U : Int) := Int.mul_le_mul_of_nonneg_right (by omega) (by omega)
  have c1 : (A + 1) * (U : Int) ≤ B * (U : Int) := Int.mul_le_mul_of_nonneg_right (by omega) (by omega)
  rw [Int.add_mul, Int.one_mul] at c1
  generalize (A.natAbs : Int) * (U : Int) = x1 at *
  generalize (B.natAbs : Int) * (U : Int) = x2 at *
  generalize A * (U : Int) = x3 at *
  generalize B * (U : Int) = x4 at *
  omega

/-- decimal numbers keep their order -/
theorem near_ord {r r' : Nat} {A B : Int} (h : Near r A) (h' : Near r' B) (hA : A.natAbs ≤ 1000000000000000) (hB : B.natAbs ≤ 1000000000000000) (he : A = B → r = r') :
    Go.FloatKind.f64.format.order r r' = some (compare A B) := by
  have ho : Go.FloatKind.f64.format.order r r' = some (compare (units r) (units r')) := order_eq h.2.1 h'.2.1
  rw [ho, compare_int, compare_int]
  rcases Int.lt_trichotomy A B with hl | hl | hl
  · have := near_lt h h' hA hB hl
    rw [if_pos this, if_pos hl]
  · obtain rfl := he hl
    rw [if_neg (by omega), if_pos rfl, if_neg (by omega), if_pos hl]
  · have := near_lt h' h hB hA hl
    rw [if_neg (by omega), if_neg (by omega), if_neg (by omega), if_neg (by omega)]

/-- a decimal number that is written shortest is known by its millionths -/
theorem dec_same {n n' : Int} {c c' t t' : Nat} (hc : (t = 10 ∧ c = 100000) ∨ (t = 100 ∧ c = 10000) ∨ (t = 1000 ∧ c = 1000) ∨ (t = 10000 ∧ c = 100) ∨ (t = 100000 ∧ c = 10) ∨ (t = 1000000 ∧ c = 1))
    (hc' : (t' = 10 ∧ c' = 100000) ∨ (t' = 100 ∧ c' = 10000) ∨ (t' = 1000 ∧ c' = 1000) ∨ (t' = 10000 ∧ c' = 100) ∨ (t' = 100000 ∧ c' = 10) ∨ (t' = 1000000 ∧ c' = 1))
    (hs : t = 10 ∨ n % 10 ≠ 0) (hs' : t' = 10 ∨ n' % 10 ≠ 0) (he : n * (c : Int) = n' * (c' : Int)) : n = n' ∧ t = t' := by
  rcases hc with ⟨rfl, rfl⟩ | ⟨rfl, rfl⟩ | ⟨rfl, rfl⟩ | ⟨rfl, rfl⟩ | ⟨rfl, rfl⟩ | ⟨rfl, rfl⟩ <;>
  rcases hc' with ⟨rfl, rfl⟩ | ⟨rfl, rfl⟩ | ⟨rfl, rfl⟩ | ⟨rfl, rfl⟩ | ⟨rfl, rfl⟩ | ⟨rfl, rfl⟩ <;> omega
end Fl
