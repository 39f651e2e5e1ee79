/- The walk of FnExactWholeCalc: the law returns true and changes nothing that was there. -/
import Derived.Test.YtmbmdemoghdggaaRows
import Derived.Test.YtmbmdemoghdggaaWalk3
import Derived.WalkKit
import Derived.WalkSpells
import Derived.WalkLawsBesides
import Derived.OpenShut
namespace Go.Proofs.Ytmbmdemoghdggaa
open Go.RowKit
set_option linter.unusedVariables false

theorem mul_bd (a b : Int) (h1 : -32768 ≤ a ∧ a ≤ 32767) (h2 : -32768 ≤ b ∧ b ≤ 32767) : -1073741824 ≤ a * b ∧ a * b ≤ 1073741824 := by
  have h := Int.natAbs_mul a b
  have h3 : a.natAbs * b.natAbs ≤ 32768 * 32768 := Nat.mul_le_mul (by omega) (by omega)
  omega
theorem tdiv_bd (a b : Int) (h1 : -32768 ≤ a ∧ a ≤ 32767) : -32768 ≤ a.tdiv b ∧ a.tdiv b ≤ 32768 := by
  have h : (a.tdiv b).natAbs ≤ a.natAbs := by rw [Int.natAbs_tdiv]; exact Nat.div_le_self _ _
  omega
theorem tmod_bd' (a b : Int) (h1 : -32768 ≤ a ∧ a ≤ 32767) : -32768 ≤ a.tmod b ∧ a.tmod b ≤ 32767 := by
  have h : (a.tmod b).natAbs ≤ a.natAbs := by rw [Int.natAbs_tmod]; exact Nat.mod_le _ _
  rcases Int.lt_or_le a 0 with ha | ha
  · have h2 := Int.tmod_nonneg b (a := -a) (by omega)
    rw [Int.neg_tmod] at h2
    omega
  · omega
set_option maxRecDepth 100000 in
set_option maxHeartbeats 400000 in
theorem FnExactWholeCalc_add (a1 a2 : Int) (h1 : -32768 ≤ a1 ∧ a1 ≤ 32767) (h2 : -32768 ≤ a2 ∧ a2 ≤ 32767) (w : World) : Calls Try.prog 11 #[.int .i64 1, .int .i16 a1, .int .i16 a2] w fun e w' => e = .returned (.bool true) ∧ Below w.heap.size w w' := by
  obtain ⟨h11, h12⟩ := h1
  obtain ⟨h21, h22⟩ := h2
  go_enter Try.func11, Try.ntmps11
  go_wp2_with (first | (go_at_call 39; refine (l3Wrap_any _ (by omega) _).mono ?_; rintro e w' ⟨rfl, rfl⟩) | go_in)
  go_ret
  exact ⟨rfl, Below.refl _ _⟩
set_option maxRecDepth 100000 in
set_option maxHeartbeats 400000 in
theorem FnExactWholeCalc_sub (a1 a2 : Int) (h1 : -32768 ≤ a1 ∧ a1 ≤ 32767) (h2 : -32768 ≤ a2 ∧ a2 ≤ 32767) (w : World) : Calls Try.prog 11 #[.int .i64 2, .int .i16 a1, .int .i16 a2] w fun e w' => e = .returned (.bool true) ∧ Below w.heap.size w w' := by
  obtain ⟨h11, h12⟩ := h1
  obtain ⟨h21, h22⟩ := h2
  go_enter Try.func11, Try.ntmps11
  go_wp2_with (first | (go_at_call 39; refine (l3Wrap_any _ (by omega) _).mono ?_; rintro e w' ⟨rfl, rfl⟩) | go_in)
  go_ret
  exact ⟨rfl, Below.refl _ _⟩
set_option maxRecDepth 100000 in
set_option maxHeartbeats 400000 in
theorem FnExactWholeCalc_mul (a1 a2 : Int) (h1 : -32768 ≤ a1 ∧ a1 ≤ 32767) (h2 : -32768 ≤ a2 ∧ a2 ≤ 32767) (w : World) : Calls Try.prog 11 #[.int .i64 3, .int .i16 a1, .int .i16 a2] w fun e w' => e = .returned (.bool true) ∧ Below w.heap.size w w' := by
  obtain ⟨m1, m2⟩ := mul_bd a1 a2 h1 h2
  obtain ⟨h11, h12⟩ := h1
  obtain ⟨h21, h22⟩ := h2
  go_enter Try.func11, Try.ntmps11
  go_wp2_with (first | (go_at_call 39; refine (l3Wrap_any _ (by omega) _).mono ?_; rintro e w' ⟨rfl, rfl⟩) | go_in)
  go_ret
  exact ⟨rfl, Below.refl _ _⟩
set_option maxRecDepth 100000 in
set_option maxHeartbeats 400000 in
theorem FnExactWholeCalc_div (a1 a2 : Int) (h1 : -32768 ≤ a1 ∧ a1 ≤ 32767) (h2 : -32768 ≤ a2 ∧ a2 ≤ 32767) (hz : ¬ a2 = 0) (w : World) : Calls Try.prog 11 #[.int .i64 4, .int .i16 a1, .int .i16 a2] w fun e w' => e = .returned (.bool true) ∧ Below w.heap.size w w' := by
  obtain ⟨m1, m2⟩ := tdiv_bd a1 a2 h1
  have e0 : (a2 == 0) = false := by simpa using hz
  have e1 : (a2 != 0) = true := by simpa using hz
  obtain ⟨h11, h12⟩ := h1
  obtain ⟨h21, h22⟩ := h2
  go_enter Try.func11, Try.ntmps11
  go_wp2_with (first | (go_at_call 39; refine (l3Wrap_any _ (by omega) _).mono ?_; rintro e w' ⟨rfl, rfl⟩) | go_in)
  go_ret
  exact ⟨rfl, Below.refl _ _⟩
set_option maxRecDepth 100000 in
set_option maxHeartbeats 400000 in
theorem FnExactWholeCalc_rem (a1 a2 : Int) (h1 : -32768 ≤ a1 ∧ a1 ≤ 32767) (h2 : -32768 ≤ a2 ∧ a2 ≤ 32767) (hz : ¬ a2 = 0) (w : World) : Calls Try.prog 11 #[.int .i64 5, .int .i16 a1, .int .i16 a2] w fun e w' => e = .returned (.bool true) ∧ Below w.heap.size w w' := by
  obtain ⟨m1, m2⟩ := tmod_bd' a1 a2 h1
  have hwr : IntKind.i16.wrap (a1.tmod a2) = a1.tmod a2 := by rw [Fl.wrap_i16]; omega
  have e0 : (a2 == 0) = false := by simpa using hz
  have e1 : (a2 != 0) = true := by simpa using hz
  obtain ⟨h11, h12⟩ := h1
  obtain ⟨h21, h22⟩ := h2
  go_enter Try.func11, Try.ntmps11
  go_wp2_with (first | (go_at_call 39; refine (l3Wrap_any _ (by omega) _).mono ?_; rintro e w' ⟨rfl, rfl⟩) | go_in)
  go_ret
  exact ⟨rfl, Below.refl _ _⟩
set_option maxRecDepth 100000 in
set_option maxHeartbeats 400000 in
theorem FnExactWholeCalc_div0 (a1 : Int) (w : World) : Calls Try.prog 11 #[.int .i64 4, .int .i16 a1, .int .i16 0] w fun e w' => e = .returned (.bool true) ∧ Below w.heap.size w w' := by
  go_enter Try.func11, Try.ntmps11
  go_wp2
  go_ret
  exact ⟨rfl, Below.refl _ _⟩
set_option maxRecDepth 100000 in
set_option maxHeartbeats 400000 in
theorem FnExactWholeCalc_rem0 (a1 : Int) (w : World) : Calls Try.prog 11 #[.int .i64 5, .int .i16 a1, .int .i16 0] w fun e w' => e = .returned (.bool true) ∧ Below w.heap.size w w' := by
  go_enter Try.func11, Try.ntmps11
  go_wp2
  go_ret
  exact ⟨rfl, Below.refl _ _⟩
set_option maxRecDepth 100000 in
set_option maxHeartbeats 400000 in
theorem FnExactWholeCalc_else (a0 a1 a2 : Int) (h11 : -32768 ≤ a1) (h12 : a1 ≤ 32767) (h21 : -32768 ≤ a2) (h22 : a2 ≤ 32767) (h : a0 < 1 ∨ 5 < a0) (w : World) : Calls Try.prog 11 #[.int .i64 a0, .int .i16 a1, .int .i16 a2] w fun e w' => e = .returned (.bool true) ∧ Below w.heap.size w w' := by
  by_cases hz : a2 = 0
  · subst hz
    rcases h with h | h
    all_goals
      go_enter Try.func11, Try.ntmps11
      go_wp2
      go_ret
      exact ⟨rfl, Below.refl _ _⟩
  · have e0 : (a2 == 0) = false := by simpa using hz
    have e1 : (a2 != 0) = true := by simpa using hz
    rcases h with h | h
    all_goals
      go_enter Try.func11, Try.ntmps11
      go_wp2
      go_ret
      exact ⟨rfl, Below.refl _ _⟩
theorem FnExactWholeCalc_walk (a0 : Int) (w0 : (Lit.int .i64 a0).wf = true) (a1 : Int) (w1 : (Lit.int .i16 a1).wf = true) (a2 : Int) (w2 : (Lit.int .i16 a2).wf = true) (w : World) :
    Calls Try.prog 11 #[.int .i64 a0, .int .i16 a1, .int .i16 a2] w fun e w' => e = .returned (.bool true) ∧ Below w.heap.size w w' := by
  have h1 := bounds_i16 w1
  have h2 := bounds_i16 w2
  by_cases ha : a0 < 1
  · exact FnExactWholeCalc_else a0 a1 a2 h1.1 h1.2 h2.1 h2.2 (.inl ha) w
  by_cases hb : 5 < a0
  · exact FnExactWholeCalc_else a0 a1 a2 h1.1 h1.2 h2.1 h2.2 (.inr hb) w
  have h3 : a0 = 1 ∨ a0 = 2 ∨ a0 = 3 ∨ a0 = 4 ∨ a0 = 5 := by omega
  rcases h3 with rfl | rfl | rfl | rfl | rfl
  · exact FnExactWholeCalc_add a1 a2 h1 h2 w
  · exact FnExactWholeCalc_sub a1 a2 h1 h2 w
  · exact FnExactWholeCalc_mul a1 a2 h1 h2 w
  · by_cases hz : a2 = 0
    · subst hz; exact FnExactWholeCalc_div0 a1 w
    · exact FnExactWholeCalc_div a1 a2 h1 h2 hz w
  · by_cases hz : a2 = 0
    · subst hz; exact FnExactWholeCalc_rem0 a1 w
    · exact FnExactWholeCalc_rem a1 a2 h1 h2 hz w

end Go.Proofs.Ytmbmdemoghdggaa
