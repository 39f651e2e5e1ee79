/-
  PLAIN LAWS ON IEEE DOUBLES, SIXTH PART: what is left when a double's whole part is taken away. No program in this text.
-/
import Derived.Test.YtobbkebjgjeglaaFlo5
namespace Fl
open Go Ieee

theorem sub_exact {x y : Nat} (hx : rung x < 9218868437227405312) (hy : rung y < 9218868437227405312) (hr : Rep (units x - units y).natAbs) :
    ∃ r, double.sub x y = some r ∧ rung r < 9218868437227405312 ∧ units r = units x - units y := by
  obtain ⟨m, p, e, hp, hm⟩ := read_fin hx
  obtain ⟨n, q, e', hq, hn⟩ := read_fin hy
  obtain ⟨base, hb⟩ : ∃ b, b = min p q := ⟨_, rfl⟩
  obtain ⟨tot, ht⟩ : ∃ t, t = signed (neg x) m (p - base).toNat + signed (!neg y) n (q - base).toNat := ⟨_, rfl⟩
  have hu : tot * ((p2 (base + 1074).toNat : Nat) : Int) = units x - units y := by
    have h1 := signed_units (base := base) (by omega) (by omega) hm
    have h2 := signed_units (base := base) (by omega) (by omega) hn
    have h3 : signed (!neg y) n (q - base).toNat = -signed (neg y) n (q - base).toNat := by
      rw [signed_eq, signed_eq]; cases neg y <;> simp
    rw [ht, h3, Int.add_mul, Int.neg_mul, h1, h2]; omega
  have hpp : (0 : Int) < ((p2 (base + 1074).toNat : Nat) : Int) := Int.natCast_pos.2 (p2_pos _)
  have hs : double.sub x y = some (double.nearest (if tot = 0 then neg x && !neg y else tot < 0) tot.natAbs base) := by
    unfold Format.sub
    rw [e, e', ht, hb]
    rfl
  have hI := nearest_exact (if tot = 0 then neg x && !neg y else tot < 0) (K := 1074) (mag := tot.natAbs) (place := base) (v := (units x - units y).natAbs) (by omega) (by omega) (by
    rw [← hu, Int.natAbs_mul, Int.natAbs_natCast, show 1074 - 1074 = 0 from rfl, p2_zero, Nat.mul_one]
    rfl) hr
  refine ⟨_, hs, hI.rung_.1, ?_⟩
  rw [hI.units_]
  by_cases h0 : tot = 0
  · rw [h0, Int.zero_mul] at hu
    rw [← hu]; simp
  · have h1 : (tot < 0) ↔ units x - units y < 0 := by
      rw [← hu]
      constructor
      · intro h; exact Int.mul_neg_of_neg_of_pos h hpp
      · intro h; by_cases h' : tot < 0
        · exact h'
        · have := Int.mul_nonneg (show 0 ≤ tot by omega) (Int.le_of_lt hpp); omega
    rw [if_neg h0]
    by_cases h2 : tot < 0
    · have h3 := h1.1 h2
      simp [h2]; omega
    · have h3 : ¬ units x - units y < 0 := fun h => h2 (h1.2 h)
      simp [h2]; omega

theorem rep_rest {b : Nat} : Rep (val (rung b) % p2 1074) := by
  have hlt : val (rung b) % p2 1074 < p2 2098 := Nat.lt_of_lt_of_le (Nat.mod_lt _ (p2_pos 1074)) (p2_le (by omega))
  refine ⟨hlt, ?_⟩
  obtain ⟨L, k, _, hk, _, hv⟩ := val_split (rung b)
  rw [hv]
  by_cases hL : 1074 ≤ L
  · refine ⟨0, 0, by omega, ?_⟩
    rw [Nat.zero_mul]
    exact Nat.mod_eq_zero_of_dvd (Nat.dvd_trans (p2_dvd hL) (Nat.dvd_mul_left _ _))
  · refine ⟨k % p2 (1074 - L), L, Nat.lt_of_le_of_lt (Nat.mod_le _ _) hk, ?_⟩
    have h1 : p2 1074 = p2 (1074 - L) * p2 L := by rw [← p2_add]; congr 1; omega
    rw [h1, Nat.mul_mod_mul_right]

/-- x less its whole part -/
theorem sub_cut {x : Nat} (hx : rung x < 9218868437227405312) (hc : (cutI x).natAbs ≤ 9007199254740992) :
    ∃ r, floatBits .sub .f64 x (floatOfInt .f64 (cutI x)) = some r ∧ ¬ isNaN r ∧ units r = units x - cutI x * ((p2 1074 : Nat) : Int) := by
  have hf := fo_is hc
  have hu : units (floatOfInt .f64 (cutI x)) = cutI x * ((p2 1074 : Nat) : Int) := ofInt_units hc
  have hrest : (units x - cutI x * ((p2 1074 : Nat) : Int)).natAbs = val (rung x) % p2 1074 := by
    have h1 := Nat.div_add_mod (val (rung x)) (p2 1074)
    have h2 : cutI x * ((p2 1074 : Nat) : Int) = if neg x then -((cutN x * p2 1074 : Nat) : Int) else ((cutN x * p2 1074 : Nat) : Int) := by
      unfold cutI; split
      · rw [Int.neg_mul, Int.natCast_mul]
      · rw [Int.natCast_mul]
    rw [h2]
    have h3 : cutN x * p2 1074 = p2 1074 * (val (rung x) / p2 1074) := by unfold cutN; rw [Nat.mul_comm]
    rw [h3]
    generalize p2 1074 * (val (rung x) / p2 1074) = A at *
    unfold units
    split <;> omega
  obtain ⟨r, h1, h2, h3⟩ := sub_exact hx hf.rung_.1 (by rw [hu, hrest]; exact rep_rest)
  refine ⟨r, h1, ?_, by rw [h3, hu]⟩
  unfold isNaN; omega
/-- between -1 and 1, and on x's side of zero -/
theorem rest_side {x : Nat} : -((p2 1074 : Nat) : Int) < units x - cutI x * ((p2 1074 : Nat) : Int) ∧ units x - cutI x * ((p2 1074 : Nat) : Int) < ((p2 1074 : Nat) : Int) ∧
    (units x < 0 ∨ 0 ≤ units x - cutI x * ((p2 1074 : Nat) : Int)) ∧ (0 < units x ∨ units x - cutI x * ((p2 1074 : Nat) : Int) ≤ 0) := by
  have h1 := cut_le x
  have h2 := lt_cut x
  rw [Nat.add_mul, Nat.one_mul] at h2
  have h3 : cutI x * ((p2 1074 : Nat) : Int) = if neg x then -((cutN x * p2 1074 : Nat) : Int) else ((cutN x * p2 1074 : Nat) : Int) := by
    unfold cutI; split
    · rw [Int.neg_mul, Int.natCast_mul]
    · rw [Int.natCast_mul]
  rw [h3]
  generalize cutN x * p2 1074 = A at *
  generalize p2 1074 = P at *
  unfold units
  split <;> omega
end Fl
