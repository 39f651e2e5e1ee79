/- The walk of math.Ldexp at a whole number. -/
import Derived.Test.YtobbkebjgjeglaaDoorRows
import Derived.Test.YtobbkebjgjeglaaDoorWRT
import Derived.Test.YtobbkebjgjeglaaDoorRealL
import Derived.WalkKit
import Derived.WalkSpells
import Derived.WalkLawsBesides
import Derived.OpenShut
import Derived.IntWalk
import Derived.Lib.Hide
import Derived.Deep.QuietTactic
import Derived.BigQuiet
import Derived.Laws.FloatArith
namespace Go.Proofs.YtobbkebjgjeglaaDoor
open Go.RowKit Bx ItoP RealP Fl RealL
set_option linter.unusedVariables false

theorem frombits (n : Int) (w : World) : (callFunc 34 #[.int .u64 n]).run Tryd.prog w = .ok (.value (.float .f64 n.toNat)) w := by
  rw [run_callFunc_extern (e := Extern.MathFloatBits.float64frombits) Tryd.func34 (by kernel_rfl) (by kernel_rfl) (by kernel_rfl) (by kernel_rfl)]; rfl
theorem andNot_sign {b : Nat} (h : b < 18446744073709551616) : bits .andNot .u64 (b : Int) 9223372036854775808 = (rung b : Int) := by
  rw [show (9223372036854775808 : Int) = ((9223372036854775808 : Nat) : Int) from rfl, u64_andNot_nat _ _ h (by omega)]
  congr 1
  exact Nat.and_two_pow_sub_one_eq_mod b 63
theorem rung_rung (b : Nat) : rung (rung b) = rung b := by unfold rung; omega
theorem neg_rung (b : Nat) : neg (rung b) = false := by
  have := rung_lt b
  unfold neg
  rw [Nat.div_eq_of_lt this]
  rfl
set_option maxRecDepth 100000 in
set_option maxHeartbeats 1000000 in
theorem abs_any (b : Nat) (hb : b < 18446744073709551616) (w : World) : Calls Tryd.prog 66 #[.float .f64 b] w fun e w' => e = .returned (.float .f64 (rung b)) ∧ w' = w := by
  have t1 := tobits
  have t2 := fun w => frombits (rung b : Int) w
  have t3 := andNot_sign hb
  rw [Int.toNat_natCast] at t2
  clear hb
  generalize rung b = r at *
  go_enter Tryd.func66, Tryd.ntmps66
  go_wp2
  go_ret
  exact ⟨rfl, rfl⟩
set_option maxRecDepth 100000 in
set_option maxHeartbeats 1000000 in
theorem isInf_any (b : Nat) (hb : b < 18446744073709551616) (hf : rung b < 9218868437227405312) (w : World) : Calls Tryd.prog 51 #[.float .f64 b, .int .i64 0] w fun e w' => e = .returned (.bool false) ∧ w' = w := by
  have ha := fun w => abs_any b hb w
  have h1 := gt_max (x := rung b) (by unfold isNaN; rw [rung_rung]; omega) (neg_rung b)
  rw [rung_rung, decide_eq_false (by omega)] at h1
  clear hf hb
  generalize rung b = r at *
  go_enter Tryd.func51, Tryd.ntmps51
  go_wp2_with fail
  refine (ha _).mono ?_
  rintro e w1 ⟨rfl, rfl⟩
  clear ha
  go_wp2
  go_ret
  exact ⟨rfl, rfl⟩
set_option maxRecDepth 100000 in
set_option maxHeartbeats 1000000 in
theorem isNaN_any (b : Nat) (hf : rung b < 9218868437227405312) (w : World) : Calls Tryd.prog 52 #[.float .f64 b] w fun e w' => e = .returned (.bool false) ∧ w' = w := by
  have h1 := ord_self (x := b) (by unfold isNaN; omega)
  clear hf
  go_enter Tryd.func52, Tryd.ntmps52
  go_wp2
  go_ret
  exact ⟨rfl, rfl⟩
theorem lt_small {b : Nat} (h : 1 ≤ expo b) (hf : rung b < 9218868437227405312) : (FloatKind.f64.format.order (rung b) 4503599627370496 == some .lt) = false := by
  rw [ord_pos (by unfold isNaN; rw [rung_rung]; omega) (by decide) (neg_rung b) (by decide), lt_of_cmp, rung_rung]
  have e : rung 4503599627370496 = 4503599627370496 := by decide
  have h1 : 4503599627370496 ≤ rung b := by rw [rung_parts]; omega
  have h2 := val_le h1
  rw [e]
  simp
  omega
set_option maxRecDepth 100000 in
set_option maxHeartbeats 1000000 in
theorem normalize_any (b : Nat) (hb : b < 18446744073709551616) (h : 1 ≤ expo b) (hf : rung b < 9218868437227405312) (w : World) : Calls Tryd.prog 53 #[.float .f64 b] w fun e w' => e = .returned (.tuple #[.float .f64 b, .int .i64 0]) ∧ w' = w := by
  have ha := fun w => abs_any b hb w
  have h1 := lt_small h hf
  clear h hf hb
  generalize rung b = r at *
  go_enter Tryd.func53, Tryd.ntmps53
  go_wp2_with fail
  refine (ha _).mono ?_
  rintro e w1 ⟨rfl, rfl⟩
  clear ha
  go_wp2
  go_ret2
  exact ⟨rfl, rfl⟩
set_option maxRecDepth 100000 in
set_option maxHeartbeats 1000000 in
theorem copysign_0 (b : Nat) (hb : b < 18446744073709551616) (w : World) : Calls Tryd.prog 19 #[.float .f64 0, .float .f64 b] w fun e w' => ∃ r : Nat, e = .returned (.float .f64 r) ∧ r < 18446744073709551616 ∧ w' = w := by
  have t1 := tobits
  have t2 := frombits
  have a0 : bits .andNot .u64 0 9223372036854775808 = 0 := by decide
  have a1 : bits .and .u64 (b : Int) 9223372036854775808 = ((b &&& 9223372036854775808 : Nat) : Int) := by
    rw [show (9223372036854775808 : Int) = ((9223372036854775808 : Nat) : Int) from rfl, u64_and_nat _ _ hb (by omega)]
  have hr : b &&& 9223372036854775808 < 2 ^ 64 := Nat.and_lt_two_pow _ (by omega)
  generalize (b &&& 9223372036854775808 : Nat) = m at a1 hr
  have a2 : bits .or .u64 0 (m : Int) = (m : Int) := by
    rw [show (0 : Int) = ((0 : Nat) : Int) from rfl, u64_or_nat _ _ (by omega) (by omega), Nat.zero_or]
  have HR := Lib.hid hr
  clear hr hb
  go_enter Tryd.func19, Tryd.ntmps19
  go_wp2
  go_ret
  exact ⟨m, rfl, by have := HR.out; omega, rfl⟩
set_option maxRecDepth 100000 in
set_option maxHeartbeats 1000000 in
theorem inf_pos (w : World) : Calls Tryd.prog 18 #[.int .i64 1] w fun e w' => e = .returned (.float .f64 9218868437227405312) ∧ w' = w := by
  have t2 := frombits
  go_enter Tryd.func18, Tryd.ntmps18
  go_wp2
  go_ret
  exact ⟨rfl, rfl⟩
set_option maxRecDepth 100000 in
set_option maxHeartbeats 1000000 in
theorem inf_neg (w : World) : Calls Tryd.prog 18 #[.int .i64 (-1)] w fun e w' => e = .returned (.float .f64 18442240474082181120) ∧ w' = w := by
  have t2 := frombits
  go_enter Tryd.func18, Tryd.ntmps18
  go_wp2
  go_ret
  exact ⟨rfl, rfl⟩
set_option maxRecDepth 100000 in
set_option maxHeartbeats 1000000 in
theorem ldexp_low (b N : Nat) (s : Bool) (h : Fields b N s) (e X : Int) (h1 : -2000 ≤ e) (h2 : e ≤ 2000) (hX : e + ((expo b : Int) - 1023) = X) (hA : X < -1075) (w : World) : Calls Tryd.prog 39 #[.float .f64 b, .int .i64 e] w fun e w' => ∃ r : Nat, e = .returned (.float .f64 r) ∧ r < 18446744073709551616 ∧ w' = w := by
  have z1 : (FloatKind.f64.format.order b 0 == some .eq) = false := by
    rw [ord_zero (by have := h.fin; unfold isNaN; omega)]
    have := h.low
    rw [decide_eq_false]
    rw [rung_parts]; omega
  have c1 := fun w => isInf_any b h.lt h.fin w
  have c2 := fun w => isNaN_any b h.fin w
  have c3 := fun w => normalize_any b h.lt (by have := h.low; omega) h.fin w
  have t1 := tobits
  have t2 := frombits
  have q1 : wrap64 ((b : Int) / 4503599627370496) = (b : Int) / 4503599627370496 := by have := h.lt; unfold wrap64; omega
  have q2 := and_expo_i h.lt
  have E1 := h.low
  have E2 := h.high
  obtain ⟨E, hE⟩ : ∃ E, expo b = E := ⟨_, rfl⟩
  rw [hE] at q2 E1 E2 hX
  subst hX
  have c4 := fun w => copysign_0 b h.lt w
  clear h hE
  go_enter Tryd.func39, Tryd.ntmps39
  go_wp2_with (first | (go_at_call 51; refine (c1 _).mono ?_; rintro e w' ⟨rfl, rfl⟩) | (go_at_call 52; refine (c2 _).mono ?_; rintro e w' ⟨rfl, rfl⟩) | (go_at_call 53; refine (c3 _).mono ?_; rintro e w' ⟨rfl, rfl⟩))
  refine (c4 _).mono ?_
  rintro e w1 ⟨r, rfl, hr, rfl⟩
  have HR := Lib.hid hr
  clear hr
  go_wp2
  go_ret
  exact ⟨r, rfl, HR.out, rfl⟩
set_option maxRecDepth 100000 in
set_option maxHeartbeats 1000000 in
theorem ldexp_high (b N : Nat) (s : Bool) (h : Fields b N s) (e X : Int) (h1 : -2000 ≤ e) (h2 : e ≤ 2000) (hX : e + ((expo b : Int) - 1023) = X) (hB : 1023 < X) (w : World) : Calls Tryd.prog 39 #[.float .f64 b, .int .i64 e] w fun e w' => ∃ r : Nat, e = .returned (.float .f64 r) ∧ r < 18446744073709551616 ∧ w' = w := by
  have z1 : (FloatKind.f64.format.order b 0 == some .eq) = false := by
    rw [ord_zero (by have := h.fin; unfold isNaN; omega)]
    have := h.low
    rw [decide_eq_false]
    rw [rung_parts]; omega
  have c1 := fun w => isInf_any b h.lt h.fin w
  have c2 := fun w => isNaN_any b h.fin w
  have c3 := fun w => normalize_any b h.lt (by have := h.low; omega) h.fin w
  have t1 := tobits
  have t2 := frombits
  have q1 : wrap64 ((b : Int) / 4503599627370496) = (b : Int) / 4503599627370496 := by have := h.lt; unfold wrap64; omega
  have q2 := and_expo_i h.lt
  have E1 := h.low
  have E2 := h.high
  obtain ⟨E, hE⟩ : ∃ E, expo b = E := ⟨_, rfl⟩
  rw [hE] at q2 E1 E2 hX
  subst hX
  have hA : ¬ e + ((E : Int) - 1023) < -1075 := by omega
  have z2 : (FloatKind.f64.format.order b 0 == some .lt) = s := by rw [lt_zero (by have := h.fin; unfold isNaN; omega) (by have := h.low; rw [rung_parts]; omega), h.sg]
  clear h hE
  go_enter Tryd.func39, Tryd.ntmps39
  cases s with
  | true =>
    go_wp2_with (first | (go_at_call 51; refine (c1 _).mono ?_; rintro e w' ⟨rfl, rfl⟩) | (go_at_call 52; refine (c2 _).mono ?_; rintro e w' ⟨rfl, rfl⟩) | (go_at_call 53; refine (c3 _).mono ?_; rintro e w' ⟨rfl, rfl⟩))
    refine (inf_neg _).mono ?_
    rintro e w1 ⟨rfl, rfl⟩
    go_wp2
    go_ret
    exact ⟨_, rfl, by decide, rfl⟩
  | false =>
    go_wp2_with (first | (go_at_call 51; refine (c1 _).mono ?_; rintro e w' ⟨rfl, rfl⟩) | (go_at_call 52; refine (c2 _).mono ?_; rintro e w' ⟨rfl, rfl⟩) | (go_at_call 53; refine (c3 _).mono ?_; rintro e w' ⟨rfl, rfl⟩))
    refine (inf_pos _).mono ?_
    rintro e w1 ⟨rfl, rfl⟩
    go_wp2
    go_ret
    exact ⟨_, rfl, by decide, rfl⟩
set_option maxRecDepth 100000 in
set_option maxHeartbeats 1000000 in
theorem ldexp_nrm (b N : Nat) (s : Bool) (h : Fields b N s) (e X : Int) (h1 : -2000 ≤ e) (h2 : e ≤ 2000) (hX : e + ((expo b : Int) - 1023) = X) (hA : ¬ X < -1022) (hB : ¬ 1023 < X) (Y r : Nat) (hY : Y = word s ((X + 1023).toNat * 4503599627370496 + frac b)) (hm : floatBits .mul .f64 4607182418800017408 Y = some r) (w : World) : Calls Tryd.prog 39 #[.float .f64 b, .int .i64 e] w fun e w' => e = .returned (.float .f64 r) ∧ w' = w := by
  have z1 : (FloatKind.f64.format.order b 0 == some .eq) = false := by
    rw [ord_zero (by have := h.fin; unfold isNaN; omega)]
    have := h.low
    rw [decide_eq_false]
    rw [rung_parts]; omega
  have c1 := fun w => isInf_any b h.lt h.fin w
  have c2 := fun w => isNaN_any b h.fin w
  have c3 := fun w => normalize_any b h.lt (by have := h.low; omega) h.fin w
  have t1 := tobits
  have t2 := frombits
  have q1 : wrap64 ((b : Int) / 4503599627370496) = (b : Int) / 4503599627370496 := by have := h.lt; unfold wrap64; omega
  have q2 := and_expo_i h.lt
  have E1 := h.low
  have E2 := h.high
  obtain ⟨E, hE⟩ : ∃ E, expo b = E := ⟨_, rfl⟩
  rw [hE] at q2 E1 E2 hX
  subst hX
  have r1 := andNot_expo h.lt
  rw [h.sg] at r1
  have r2 := or_expo_u (s := s) (E := (e + ((E : Int) - 1023) + 1023).toNat) (F := frac b) (z := (e + ((E : Int) - 1023) + 1023) * 4503599627370496) (by omega) (by omega) (frac_lt b)
  rw [← hY] at r2
  have e4 := fun (w : World) (t : TypeId) => run_float_arith (P := Tryd.prog) w .mul t .f64 _ _ _ hm
  have hA2 : ¬ e + ((E : Int) - 1023) < -1075 := by omega
  have hB2 : ¬ 1023 < e + ((E : Int) - 1023) := by omega
  generalize word s (frac b) = M at r1 r2
  clear h hE hY hm
  go_enter Tryd.func39, Tryd.ntmps39
  go_wp2_with (first | (go_at_call 51; refine (c1 _).mono ?_; rintro e w' ⟨rfl, rfl⟩) | (go_at_call 52; refine (c2 _).mono ?_; rintro e w' ⟨rfl, rfl⟩) | (go_at_call 53; refine (c3 _).mono ?_; rintro e w' ⟨rfl, rfl⟩))
  go_ret
  exact ⟨rfl, rfl⟩
set_option maxRecDepth 100000 in
set_option maxHeartbeats 1000000 in
theorem ldexp_den (b N : Nat) (s : Bool) (h : Fields b N s) (e X : Int) (h1 : -2000 ≤ e) (h2 : e ≤ 2000) (hX : e + ((expo b : Int) - 1023) = X) (hA : ¬ X < -1075) (hC : X < -1022) (Y r : Nat) (hY : Y = word s ((X + 1076).toNat * 4503599627370496 + frac b)) (hm : floatBits .mul .f64 4368491638549381120 Y = some r) (w : World) : Calls Tryd.prog 39 #[.float .f64 b, .int .i64 e] w fun e w' => e = .returned (.float .f64 r) ∧ w' = w := by
  have z1 : (FloatKind.f64.format.order b 0 == some .eq) = false := by
    rw [ord_zero (by have := h.fin; unfold isNaN; omega)]
    have := h.low
    rw [decide_eq_false]
    rw [rung_parts]; omega
  have c1 := fun w => isInf_any b h.lt h.fin w
  have c2 := fun w => isNaN_any b h.fin w
  have c3 := fun w => normalize_any b h.lt (by have := h.low; omega) h.fin w
  have t1 := tobits
  have t2 := frombits
  have q1 : wrap64 ((b : Int) / 4503599627370496) = (b : Int) / 4503599627370496 := by have := h.lt; unfold wrap64; omega
  have q2 := and_expo_i h.lt
  have E1 := h.low
  have E2 := h.high
  obtain ⟨E, hE⟩ : ∃ E, expo b = E := ⟨_, rfl⟩
  rw [hE] at q2 E1 E2 hX
  subst hX
  have r1 := andNot_expo h.lt
  rw [h.sg] at r1
  have r2 := or_expo_u (s := s) (E := (e + ((E : Int) - 1023) + 1076).toNat) (F := frac b) (z := (e + ((E : Int) - 1023) + 53 + 1023) * 4503599627370496) (by omega) (by omega) (frac_lt b)
  rw [← hY] at r2
  have e4 := fun (w : World) (t : TypeId) => run_float_arith (P := Tryd.prog) w .mul t .f64 _ _ _ hm
  have hA2 : ¬ e + ((E : Int) - 1023) < -1075 := by omega
  have hB2 : ¬ 1023 < e + ((E : Int) - 1023) := by omega
  generalize word s (frac b) = M at r1 r2
  clear h hE hY hm
  go_enter Tryd.func39, Tryd.ntmps39
  go_wp2_with (first | (go_at_call 51; refine (c1 _).mono ?_; rintro e w' ⟨rfl, rfl⟩) | (go_at_call 52; refine (c2 _).mono ?_; rintro e w' ⟨rfl, rfl⟩) | (go_at_call 53; refine (c3 _).mono ?_; rintro e w' ⟨rfl, rfl⟩))
  go_ret
  exact ⟨rfl, rfl⟩
set_option maxRecDepth 100000 in
set_option maxHeartbeats 1000000 in
theorem ldexp_zero (e : Int) (w : World) : Calls Tryd.prog 39 #[.float .f64 0, .int .i64 e] w fun e w' => e = .returned (.float .f64 0) ∧ w' = w := by
  have z1 : (FloatKind.f64.format.order 0 0 == some .eq) = true := by decide
  go_enter Tryd.func39, Tryd.ntmps39
  go_wp2
  go_ret
  exact ⟨rfl, rfl⟩
def Got (n e : Int) (r : Nat) : Prop := r < 18446744073709551616 ∧ ∀ T : Nat, (T : Int) = e + 1074 → n ≠ 0 → Rep (n.natAbs * p2 T) → Is r (decide (n < 0)) (n.natAbs * p2 T)
theorem ldexp_any (n e : Int) (hn : n.natAbs ≤ 9007199254740992) (h1 : -2000 ≤ e) (h2 : e ≤ 2000) (w : World) : Calls Tryd.prog 39 #[.float .f64 (floatOfInt .f64 n), .int .i64 e] w fun en w' => ∃ r : Nat, en = .returned (.float .f64 r) ∧ Got n e r ∧ w' = w := by
  by_cases h0 : n = 0
  · subst h0
    refine (ldexp_zero e w).mono ?_
    rintro en w' ⟨rfl, rfl⟩
    exact ⟨0, rfl, ⟨by omega, fun T _ h => absurd rfl h⟩, rfl⟩
  have hf := fields_of h0 hn
  generalize floatOfInt .f64 n = b at hf
  obtain ⟨X, hX⟩ : ∃ X, e + ((expo b : Int) - 1023) = X := ⟨_, rfl⟩
  have hl := hf.low
  have hh := hf.high
  by_cases hA : X < -1075
  · refine (ldexp_low b _ _ hf e X h1 h2 hX hA w).mono ?_
    rintro en w' ⟨r, rfl, hr, rfl⟩
    exact ⟨r, rfl, ⟨hr, fun T hT _ _ => by omega⟩, rfl⟩
  by_cases hB : 1023 < X
  · refine (ldexp_high b _ _ hf e X h1 h2 hX hB w).mono ?_
    rintro en w' ⟨r, rfl, hr, rfl⟩
    exact ⟨r, rfl, ⟨hr, fun T hT _ hrep => by have := range_of hf hrep; omega⟩, rfl⟩
  have hF := frac_lt b
  by_cases hC : X < -1022
  · obtain ⟨w1, w2, w3⟩ := word_parts (s := decide (n < 0)) (E := (X + 1076).toNat) (F := frac b) (by omega) hF
    obtain ⟨r, hr⟩ := mul_some small_is.rung_.1 (show rung (word (decide (n < 0)) ((X + 1076).toNat * 4503599627370496 + frac b)) < 9218868437227405312 by rw [w1]; omega)
    have hm : floatBits .mul .f64 4368491638549381120 (word (decide (n < 0)) ((X + 1076).toNat * 4503599627370496 + frac b)) = some r := hr
    refine (ldexp_den b _ _ hf e X h1 h2 hX hA hC _ r rfl hm w).mono ?_
    rintro en w' ⟨rfl, rfl⟩
    refine ⟨r, rfl, ⟨by have := floatBits_wf hm; simpa [Lit.wf] using this, fun T hT _ hrep => ?_⟩, rfl⟩
    obtain ⟨r', h3, h4⟩ := ld_exact (E := (X + 1076).toNat) (P := (X + 1076).toNat - 1) (T := T) hf small_is (by omega) rfl (by omega) hrep
    rw [hr] at h3
    obtain rfl := Option.some.inj h3
    exact h4
  · obtain ⟨w1, w2, w3⟩ := word_parts (s := decide (n < 0)) (E := (X + 1023).toNat) (F := frac b) (by omega) hF
    obtain ⟨r, hr⟩ := mul_some one_is.rung_.1 (show rung (word (decide (n < 0)) ((X + 1023).toNat * 4503599627370496 + frac b)) < 9218868437227405312 by rw [w1]; omega)
    have hm : floatBits .mul .f64 4607182418800017408 (word (decide (n < 0)) ((X + 1023).toNat * 4503599627370496 + frac b)) = some r := hr
    refine (ldexp_nrm b _ _ hf e X h1 h2 hX hC hB _ r rfl hm w).mono ?_
    rintro en w' ⟨rfl, rfl⟩
    refine ⟨r, rfl, ⟨by have := floatBits_wf hm; simpa [Lit.wf] using this, fun T hT _ hrep => ?_⟩, rfl⟩
    obtain ⟨r', h3, h4⟩ := ld_exact (E := (X + 1023).toNat) (P := (X + 1023).toNat - 1) (T := T) hf one_is (by omega) rfl (by omega) hrep
    rw [hr] at h3
    obtain rfl := Option.some.inj h3
    exact h4
set_option maxRecDepth 100000 in
set_option maxHeartbeats 1000000 in
theorem Ldexp_any (n e : Int) (hn : n.natAbs ≤ 9007199254740992) (h1 : -2000 ≤ e) (h2 : e ≤ 2000) (w : World) : Calls Tryd.prog 23 #[.float .f64 (floatOfInt .f64 n), .int .i64 e] w fun en w' => ∃ r : Nat, en = .returned (.float .f64 r) ∧ Got n e r ∧ w' = w := by
  have hl := fun w => ldexp_any n e hn h1 h2 w
  generalize floatOfInt .f64 n = b at hl
  go_enter Tryd.func23, Tryd.ntmps23
  go_wp2_with fail
  refine (hl _).mono ?_
  rintro en w1 ⟨r, rfl, hr, rfl⟩
  have HR := Lib.hid hr
  clear hl hr
  go_wp2
  go_ret
  exact ⟨r, rfl, HR.out, rfl⟩
end Go.Proofs.YtobbkebjgjeglaaDoor
