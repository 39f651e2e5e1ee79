/- The contract of DevOk, the program's and the reference's: both say which operands are ok. -/
import Derived.Test.YtmlpobecilbknaaDoorRows
import Derived.Test.YtmlpobecilbknaaDoorDevP
import Derived.WalkKit
import Derived.WalkSpells
import Derived.WalkLawsBesides
import Derived.OpenShut
import Derived.Deep.QuietTactic
import Derived.BigQuiet
namespace Go.Proofs.YtmlpobecilbknaaDoor
open Go.RowKit
set_option linter.unusedVariables false

theorem bel_drewN {B : Nat} {a w : World} (h : Below B a w) (n : Nat) : Below B a (w.drewN n) := ⟨h.os, h.tape, h.output, h.size, h.block⟩
theorem size_ix0 (w : World) : (Instr.index 55 (.agg #[.int .i64 32, .int .i64 32, .int .i64 64, .int .i64 16, .int .i64 32, .int .i64 5, .int .i64 16, .int .i64 16, .int .i64 32, .int .i64 16]) (.int .i64 0)).run Tryd.prog w = .ok (.int .i64 32) w := by kernel_rfl
theorem size_ix1 (w : World) : (Instr.index 55 (.agg #[.int .i64 32, .int .i64 32, .int .i64 64, .int .i64 16, .int .i64 32, .int .i64 5, .int .i64 16, .int .i64 16, .int .i64 32, .int .i64 16]) (.int .i64 1)).run Tryd.prog w = .ok (.int .i64 32) w := by kernel_rfl
theorem size_ix2 (w : World) : (Instr.index 55 (.agg #[.int .i64 32, .int .i64 32, .int .i64 64, .int .i64 16, .int .i64 32, .int .i64 5, .int .i64 16, .int .i64 16, .int .i64 32, .int .i64 16]) (.int .i64 2)).run Tryd.prog w = .ok (.int .i64 64) w := by kernel_rfl
theorem size_ix3 (w : World) : (Instr.index 55 (.agg #[.int .i64 32, .int .i64 32, .int .i64 64, .int .i64 16, .int .i64 32, .int .i64 5, .int .i64 16, .int .i64 16, .int .i64 32, .int .i64 16]) (.int .i64 3)).run Tryd.prog w = .ok (.int .i64 16) w := by kernel_rfl
theorem size_ix4 (w : World) : (Instr.index 55 (.agg #[.int .i64 32, .int .i64 32, .int .i64 64, .int .i64 16, .int .i64 32, .int .i64 5, .int .i64 16, .int .i64 16, .int .i64 32, .int .i64 16]) (.int .i64 4)).run Tryd.prog w = .ok (.int .i64 32) w := by kernel_rfl
theorem size_ix5 (w : World) : (Instr.index 55 (.agg #[.int .i64 32, .int .i64 32, .int .i64 64, .int .i64 16, .int .i64 32, .int .i64 5, .int .i64 16, .int .i64 16, .int .i64 32, .int .i64 16]) (.int .i64 5)).run Tryd.prog w = .ok (.int .i64 5) w := by kernel_rfl
theorem size_ix6 (w : World) : (Instr.index 55 (.agg #[.int .i64 32, .int .i64 32, .int .i64 64, .int .i64 16, .int .i64 32, .int .i64 5, .int .i64 16, .int .i64 16, .int .i64 32, .int .i64 16]) (.int .i64 6)).run Tryd.prog w = .ok (.int .i64 16) w := by kernel_rfl
theorem size_ix7 (w : World) : (Instr.index 55 (.agg #[.int .i64 32, .int .i64 32, .int .i64 64, .int .i64 16, .int .i64 32, .int .i64 5, .int .i64 16, .int .i64 16, .int .i64 32, .int .i64 16]) (.int .i64 7)).run Tryd.prog w = .ok (.int .i64 16) w := by kernel_rfl
theorem size_ix8 (w : World) : (Instr.index 55 (.agg #[.int .i64 32, .int .i64 32, .int .i64 64, .int .i64 16, .int .i64 32, .int .i64 5, .int .i64 16, .int .i64 16, .int .i64 32, .int .i64 16]) (.int .i64 8)).run Tryd.prog w = .ok (.int .i64 32) w := by kernel_rfl
theorem size_ix9 (w : World) : (Instr.index 55 (.agg #[.int .i64 32, .int .i64 32, .int .i64 64, .int .i64 16, .int .i64 32, .int .i64 5, .int .i64 16, .int .i64 16, .int .i64 32, .int .i64 16]) (.int .i64 9)).run Tryd.prog w = .ok (.int .i64 16) w := by kernel_rfl
set_option maxRecDepth 100000 in
set_option maxHeartbeats 400000 in
theorem within_same (n lo hi : Int) (w : World) : Calls Tryd.prog 49 #[.int .i64 n, .int .i64 lo, .int .i64 hi] w fun e w' => e = .returned (.bool (decide (lo ≤ n) && decide (n ≤ hi))) ∧ w' = w := by
  by_cases h : lo ≤ n
  · have d : decide (lo ≤ n) = true := by simpa using h
    go_enter Tryd.func49, Tryd.ntmps49
    go_wp2
    go_ret
    refine ⟨?_, rfl⟩
    simp
    exact fun _ => h
  · have d : decide (lo ≤ n) = false := by simpa using h
    go_enter Tryd.func49, Tryd.ntmps49
    go_wp2
    go_ret
    refine ⟨?_, rfl⟩
    simp
set_option maxRecDepth 100000 in
set_option maxHeartbeats 400000 in
theorem devSize_s_1 (w : World) : Calls Tryd.prog 71 #[.int .i64 1] w fun e w' => e = .returned (.int .i64 32) ∧ w' = w := by
  go_enter Tryd.func71, Tryd.ntmps71
  go_wp2
  go_ret
  exact ⟨rfl, rfl⟩
set_option maxRecDepth 100000 in
set_option maxHeartbeats 400000 in
theorem devSize_i_1 (w : World) : Calls Tryd.prog 50 #[.int .i64 1] w fun e w' => e = .returned (.int .i64 32) ∧ w' = w := by
  have ix := size_ix0
  go_enter Tryd.func50, Tryd.ntmps50
  go_wp2
  go_ret
  exact ⟨rfl, rfl⟩
set_option maxRecDepth 100000 in
set_option maxHeartbeats 400000 in
theorem devSize_s_2 (w : World) : Calls Tryd.prog 71 #[.int .i64 2] w fun e w' => e = .returned (.int .i64 32) ∧ w' = w := by
  go_enter Tryd.func71, Tryd.ntmps71
  go_wp2
  go_ret
  exact ⟨rfl, rfl⟩
set_option maxRecDepth 100000 in
set_option maxHeartbeats 400000 in
theorem devSize_i_2 (w : World) : Calls Tryd.prog 50 #[.int .i64 2] w fun e w' => e = .returned (.int .i64 32) ∧ w' = w := by
  have ix := size_ix1
  go_enter Tryd.func50, Tryd.ntmps50
  go_wp2
  go_ret
  exact ⟨rfl, rfl⟩
set_option maxRecDepth 100000 in
set_option maxHeartbeats 400000 in
theorem devSize_s_3 (w : World) : Calls Tryd.prog 71 #[.int .i64 3] w fun e w' => e = .returned (.int .i64 64) ∧ w' = w := by
  go_enter Tryd.func71, Tryd.ntmps71
  go_wp2
  go_ret
  exact ⟨rfl, rfl⟩
set_option maxRecDepth 100000 in
set_option maxHeartbeats 400000 in
theorem devSize_i_3 (w : World) : Calls Tryd.prog 50 #[.int .i64 3] w fun e w' => e = .returned (.int .i64 64) ∧ w' = w := by
  have ix := size_ix2
  go_enter Tryd.func50, Tryd.ntmps50
  go_wp2
  go_ret
  exact ⟨rfl, rfl⟩
set_option maxRecDepth 100000 in
set_option maxHeartbeats 400000 in
theorem devSize_s_4 (w : World) : Calls Tryd.prog 71 #[.int .i64 4] w fun e w' => e = .returned (.int .i64 16) ∧ w' = w := by
  go_enter Tryd.func71, Tryd.ntmps71
  go_wp2
  go_ret
  exact ⟨rfl, rfl⟩
set_option maxRecDepth 100000 in
set_option maxHeartbeats 400000 in
theorem devSize_i_4 (w : World) : Calls Tryd.prog 50 #[.int .i64 4] w fun e w' => e = .returned (.int .i64 16) ∧ w' = w := by
  have ix := size_ix3
  go_enter Tryd.func50, Tryd.ntmps50
  go_wp2
  go_ret
  exact ⟨rfl, rfl⟩
set_option maxRecDepth 100000 in
set_option maxHeartbeats 400000 in
theorem devSize_s_5 (w : World) : Calls Tryd.prog 71 #[.int .i64 5] w fun e w' => e = .returned (.int .i64 32) ∧ w' = w := by
  go_enter Tryd.func71, Tryd.ntmps71
  go_wp2
  go_ret
  exact ⟨rfl, rfl⟩
set_option maxRecDepth 100000 in
set_option maxHeartbeats 400000 in
theorem devSize_i_5 (w : World) : Calls Tryd.prog 50 #[.int .i64 5] w fun e w' => e = .returned (.int .i64 32) ∧ w' = w := by
  have ix := size_ix4
  go_enter Tryd.func50, Tryd.ntmps50
  go_wp2
  go_ret
  exact ⟨rfl, rfl⟩
set_option maxRecDepth 100000 in
set_option maxHeartbeats 400000 in
theorem devSize_s_6 (w : World) : Calls Tryd.prog 71 #[.int .i64 6] w fun e w' => e = .returned (.int .i64 5) ∧ w' = w := by
  go_enter Tryd.func71, Tryd.ntmps71
  go_wp2
  go_ret
  exact ⟨rfl, rfl⟩
set_option maxRecDepth 100000 in
set_option maxHeartbeats 400000 in
theorem devSize_i_6 (w : World) : Calls Tryd.prog 50 #[.int .i64 6] w fun e w' => e = .returned (.int .i64 5) ∧ w' = w := by
  have ix := size_ix5
  go_enter Tryd.func50, Tryd.ntmps50
  go_wp2
  go_ret
  exact ⟨rfl, rfl⟩
set_option maxRecDepth 100000 in
set_option maxHeartbeats 400000 in
theorem devSize_s_7 (w : World) : Calls Tryd.prog 71 #[.int .i64 7] w fun e w' => e = .returned (.int .i64 16) ∧ w' = w := by
  go_enter Tryd.func71, Tryd.ntmps71
  go_wp2
  go_ret
  exact ⟨rfl, rfl⟩
set_option maxRecDepth 100000 in
set_option maxHeartbeats 400000 in
theorem devSize_i_7 (w : World) : Calls Tryd.prog 50 #[.int .i64 7] w fun e w' => e = .returned (.int .i64 16) ∧ w' = w := by
  have ix := size_ix6
  go_enter Tryd.func50, Tryd.ntmps50
  go_wp2
  go_ret
  exact ⟨rfl, rfl⟩
set_option maxRecDepth 100000 in
set_option maxHeartbeats 400000 in
theorem devSize_s_8 (w : World) : Calls Tryd.prog 71 #[.int .i64 8] w fun e w' => e = .returned (.int .i64 16) ∧ w' = w := by
  go_enter Tryd.func71, Tryd.ntmps71
  go_wp2
  go_ret
  exact ⟨rfl, rfl⟩
set_option maxRecDepth 100000 in
set_option maxHeartbeats 400000 in
theorem devSize_i_8 (w : World) : Calls Tryd.prog 50 #[.int .i64 8] w fun e w' => e = .returned (.int .i64 16) ∧ w' = w := by
  have ix := size_ix7
  go_enter Tryd.func50, Tryd.ntmps50
  go_wp2
  go_ret
  exact ⟨rfl, rfl⟩
set_option maxRecDepth 100000 in
set_option maxHeartbeats 400000 in
theorem devSize_s_9 (w : World) : Calls Tryd.prog 71 #[.int .i64 9] w fun e w' => e = .returned (.int .i64 32) ∧ w' = w := by
  go_enter Tryd.func71, Tryd.ntmps71
  go_wp2
  go_ret
  exact ⟨rfl, rfl⟩
set_option maxRecDepth 100000 in
set_option maxHeartbeats 400000 in
theorem devSize_i_9 (w : World) : Calls Tryd.prog 50 #[.int .i64 9] w fun e w' => e = .returned (.int .i64 32) ∧ w' = w := by
  have ix := size_ix8
  go_enter Tryd.func50, Tryd.ntmps50
  go_wp2
  go_ret
  exact ⟨rfl, rfl⟩
set_option maxRecDepth 100000 in
set_option maxHeartbeats 400000 in
theorem devSize_s_10 (w : World) : Calls Tryd.prog 71 #[.int .i64 10] w fun e w' => e = .returned (.int .i64 16) ∧ w' = w := by
  go_enter Tryd.func71, Tryd.ntmps71
  go_wp2
  go_ret
  exact ⟨rfl, rfl⟩
set_option maxRecDepth 100000 in
set_option maxHeartbeats 400000 in
theorem devSize_i_10 (w : World) : Calls Tryd.prog 50 #[.int .i64 10] w fun e w' => e = .returned (.int .i64 16) ∧ w' = w := by
  have ix := size_ix9
  go_enter Tryd.func50, Tryd.ntmps50
  go_wp2
  go_ret
  exact ⟨rfl, rfl⟩
set_option maxRecDepth 100000 in
set_option maxHeartbeats 400000 in
theorem devSize_s_low (k : Int) (h : k < 1) (w : World) : Calls Tryd.prog 71 #[.int .i64 k] w fun e w' => e = .returned (.int .i64 0) ∧ w' = w := by
  have d : decide ((1 : Int) ≤ k) = false := by simp; omega
  go_enter Tryd.func71, Tryd.ntmps71
  go_wp2
  go_ret
  exact ⟨rfl, rfl⟩
set_option maxRecDepth 100000 in
set_option maxHeartbeats 400000 in
theorem devSize_s_high (k : Int) (h : 10 < k) (w : World) : Calls Tryd.prog 71 #[.int .i64 k] w fun e w' => e = .returned (.int .i64 0) ∧ w' = w := by
  have d : decide ((1 : Int) ≤ k) = true := by simp; omega
  have d2 : decide (k ≤ (10 : Int)) = false := by simp; omega
  go_enter Tryd.func71, Tryd.ntmps71
  go_wp2
  go_ret
  exact ⟨rfl, rfl⟩
set_option maxRecDepth 100000 in
set_option maxHeartbeats 400000 in
theorem devSize_i_low (k : Int) (h : k < 1) (w : World) : Calls Tryd.prog 50 #[.int .i64 k] w fun e w' => e = .returned (.int .i64 0) ∧ w' = w := by
  have d : decide ((1 : Int) ≤ k) = false := by simp; omega
  go_enter Tryd.func50, Tryd.ntmps50
  go_wp2
  go_ret
  exact ⟨rfl, rfl⟩
set_option maxRecDepth 100000 in
set_option maxHeartbeats 400000 in
theorem devSize_i_high (k : Int) (h : 10 < k) (w : World) : Calls Tryd.prog 50 #[.int .i64 k] w fun e w' => e = .returned (.int .i64 0) ∧ w' = w := by
  have d : decide ((1 : Int) ≤ k) = true := by simp; omega
  have d2 : decide (k ≤ (10 : Int)) = false := by simp; omega
  go_enter Tryd.func50, Tryd.ntmps50
  go_wp2
  go_ret
  exact ⟨rfl, rfl⟩
set_option maxRecDepth 100000 in
set_option maxHeartbeats 400000 in
theorem devOk_s_lown (k n p : Int) (h0 : k < 1) (h1 : n < 0) (w : World) : Calls Tryd.prog 43 #[.agg #[.int .i64 k, .int .i64 n, .int .i64 p]] w fun e w' => e = .returned (.bool false) ∧ Below w.heap.size w w' := by
  have d : decide ((0 : Int) ≤ n) = false := by simp; omega
  go_enter Tryd.func43, Tryd.ntmps43
  go_wp2_with (fail)
  first | go_ret | (go_quiet ((first | (go_at_call 71; exact Calls.quiet_of_same (devSize_s_low _ (by omega) _)))); go_wp2; go_ret)
  exact ⟨rfl, by repeat (first | exact Below.refl _ _ | refine Below.alloc ?_ (by simp) _ | refine Below.drew ?_ | refine bel_drewN ?_ _)⟩
set_option maxRecDepth 100000 in
set_option maxHeartbeats 400000 in
theorem devOk_s_lowp (k n p : Int) (h0 : k < 1) (h1 : 0 ≤ n) (w : World) : Calls Tryd.prog 43 #[.agg #[.int .i64 k, .int .i64 n, .int .i64 p]] w fun e w' => e = .returned (.bool false) ∧ Below w.heap.size w w' := by
  have d : decide ((0 : Int) ≤ n) = true := by simp; omega
  have d2 : decide (n < (0 : Int)) = false := by simp; omega
  go_enter Tryd.func43, Tryd.ntmps43
  go_wp2_with (fail)
  first | go_ret | (go_quiet ((first | (go_at_call 71; exact Calls.quiet_of_same (devSize_s_low _ (by omega) _)))); go_wp2; go_ret)
  exact ⟨rfl, by repeat (first | exact Below.refl _ _ | refine Below.alloc ?_ (by simp) _ | refine Below.drew ?_ | refine bel_drewN ?_ _)⟩
set_option maxRecDepth 100000 in
set_option maxHeartbeats 400000 in
theorem devOk_s_highn (k n p : Int) (h0 : 13 < k) (h1 : n < 0) (w : World) : Calls Tryd.prog 43 #[.agg #[.int .i64 k, .int .i64 n, .int .i64 p]] w fun e w' => e = .returned (.bool false) ∧ Below w.heap.size w w' := by
  have d : decide ((0 : Int) ≤ n) = false := by simp; omega
  go_enter Tryd.func43, Tryd.ntmps43
  go_wp2_with (fail)
  first | go_ret | (go_quiet ((first | (go_at_call 71; exact Calls.quiet_of_same (devSize_s_high _ (by omega) _)))); go_wp2; go_ret)
  exact ⟨rfl, by repeat (first | exact Below.refl _ _ | refine Below.alloc ?_ (by simp) _ | refine Below.drew ?_ | refine bel_drewN ?_ _)⟩
set_option maxRecDepth 100000 in
set_option maxHeartbeats 400000 in
theorem devOk_s_highp (k n p : Int) (h0 : 13 < k) (h1 : 0 ≤ n) (w : World) : Calls Tryd.prog 43 #[.agg #[.int .i64 k, .int .i64 n, .int .i64 p]] w fun e w' => e = .returned (.bool false) ∧ Below w.heap.size w w' := by
  have d : decide ((0 : Int) ≤ n) = true := by simp; omega
  have d2 : decide (n < (0 : Int)) = false := by simp; omega
  go_enter Tryd.func43, Tryd.ntmps43
  go_wp2_with (fail)
  first | go_ret | (go_quiet ((first | (go_at_call 71; exact Calls.quiet_of_same (devSize_s_high _ (by omega) _)))); go_wp2; go_ret)
  exact ⟨rfl, by repeat (first | exact Below.refl _ _ | refine Below.alloc ?_ (by simp) _ | refine Below.drew ?_ | refine bel_drewN ?_ _)⟩
set_option maxRecDepth 100000 in
set_option maxHeartbeats 400000 in
theorem devOk_s_1_lo (n p : Int) (h0 : n < 0) (w : World) : Calls Tryd.prog 43 #[.agg #[.int .i64 1, .int .i64 n, .int .i64 p]] w fun e w' => e = .returned (.bool false) ∧ Below w.heap.size w w' := by
  have d1 : decide (0 ≤ n) = false := by simp; omega
  go_enter Tryd.func43, Tryd.ntmps43
  go_wp2_with (fail)
  first | go_ret | (go_quiet ((first | (go_at_call 71; exact Calls.quiet_of_same (devSize_s_1 _)))); go_wp2; go_ret)
  exact ⟨rfl, by repeat (first | exact Below.refl _ _ | refine Below.alloc ?_ (by simp) _ | refine Below.drew ?_ | refine bel_drewN ?_ _)⟩
set_option maxRecDepth 100000 in
set_option maxHeartbeats 400000 in
theorem devOk_s_1_hi (n p : Int) (h0 : 32 ≤ n) (w : World) : Calls Tryd.prog 43 #[.agg #[.int .i64 1, .int .i64 n, .int .i64 p]] w fun e w' => e = .returned (.bool false) ∧ Below w.heap.size w w' := by
  have d1 : decide (0 ≤ n) = true := by simp; omega
  have d2 : decide (n < 32) = false := by simp; omega
  have d3 : decide (n ≤ 31) = false := by simp; omega
  go_enter Tryd.func43, Tryd.ntmps43
  go_wp2_with (fail)
  first | go_ret | (go_quiet ((first | (go_at_call 71; exact Calls.quiet_of_same (devSize_s_1 _)))); go_wp2; go_ret)
  exact ⟨rfl, by repeat (first | exact Below.refl _ _ | refine Below.alloc ?_ (by simp) _ | refine Below.drew ?_ | refine bel_drewN ?_ _)⟩
set_option maxRecDepth 100000 in
set_option maxHeartbeats 400000 in
theorem devOk_s_1_no (n p : Int) (h0 : 0 ≤ n) (h1 : n < 32) (h2 : ¬ p = 0) (w : World) : Calls Tryd.prog 43 #[.agg #[.int .i64 1, .int .i64 n, .int .i64 p]] w fun e w' => e = .returned (.bool false) ∧ Below w.heap.size w w' := by
  have d1 : decide (0 ≤ n) = true := by simp; omega
  have d2 : decide (n < 32) = true := by simp; omega
  have d3 : decide (n ≤ 31) = true := by simp; omega
  have hp0 : (p == 0) = false := by simpa using h2
  go_enter Tryd.func43, Tryd.ntmps43
  go_wp2_with (fail)
  first | go_ret | (go_quiet ((first | (go_at_call 71; exact Calls.quiet_of_same (devSize_s_1 _)))); go_wp2; go_ret)
  exact ⟨rfl, by repeat (first | exact Below.refl _ _ | refine Below.alloc ?_ (by simp) _ | refine Below.drew ?_ | refine bel_drewN ?_ _)⟩
set_option maxRecDepth 100000 in
set_option maxHeartbeats 400000 in
theorem devOk_s_1_ok (n p : Int) (h0 : 0 ≤ n) (h1 : n < 32) (h2 : p = 0) (w : World) : Calls Tryd.prog 43 #[.agg #[.int .i64 1, .int .i64 n, .int .i64 p]] w fun e w' => e = .returned (.bool true) ∧ Below w.heap.size w w' := by
  have d1 : decide (0 ≤ n) = true := by simp; omega
  have d2 : decide (n < 32) = true := by simp; omega
  have d3 : decide (n ≤ 31) = true := by simp; omega
  have hp0 : (p == 0) = true := by simpa using h2
  go_enter Tryd.func43, Tryd.ntmps43
  go_wp2_with (fail)
  first | go_ret | (go_quiet ((first | (go_at_call 71; exact Calls.quiet_of_same (devSize_s_1 _)))); go_wp2; go_ret)
  exact ⟨rfl, by repeat (first | exact Below.refl _ _ | refine Below.alloc ?_ (by simp) _ | refine Below.drew ?_ | refine bel_drewN ?_ _)⟩
set_option maxRecDepth 100000 in
set_option maxHeartbeats 400000 in
theorem devOk_s_2_lo (n p : Int) (h0 : n < 0) (w : World) : Calls Tryd.prog 43 #[.agg #[.int .i64 2, .int .i64 n, .int .i64 p]] w fun e w' => e = .returned (.bool false) ∧ Below w.heap.size w w' := by
  have d1 : decide (0 ≤ n) = false := by simp; omega
  go_enter Tryd.func43, Tryd.ntmps43
  go_wp2_with (fail)
  first | go_ret | (go_quiet ((first | (go_at_call 71; exact Calls.quiet_of_same (devSize_s_2 _)))); go_wp2; go_ret)
  exact ⟨rfl, by repeat (first | exact Below.refl _ _ | refine Below.alloc ?_ (by simp) _ | refine Below.drew ?_ | refine bel_drewN ?_ _)⟩
set_option maxRecDepth 100000 in
set_option maxHeartbeats 400000 in
theorem devOk_s_2_hi (n p : Int) (h0 : 32 ≤ n) (w : World) : Calls Tryd.prog 43 #[.agg #[.int .i64 2, .int .i64 n, .int .i64 p]] w fun e w' => e = .returned (.bool false) ∧ Below w.heap.size w w' := by
  have d1 : decide (0 ≤ n) = true := by simp; omega
  have d2 : decide (n < 32) = false := by simp; omega
  have d3 : decide (n ≤ 31) = false := by simp; omega
  go_enter Tryd.func43, Tryd.ntmps43
  go_wp2_with (fail)
  first | go_ret | (go_quiet ((first | (go_at_call 71; exact Calls.quiet_of_same (devSize_s_2 _)))); go_wp2; go_ret)
  exact ⟨rfl, by repeat (first | exact Below.refl _ _ | refine Below.alloc ?_ (by simp) _ | refine Below.drew ?_ | refine bel_drewN ?_ _)⟩
set_option maxRecDepth 100000 in
set_option maxHeartbeats 400000 in
theorem devOk_s_2_no (n p : Int) (h0 : 0 ≤ n) (h1 : n < 32) (h2 : ¬ p = 0) (w : World) : Calls Tryd.prog 43 #[.agg #[.int .i64 2, .int .i64 n, .int .i64 p]] w fun e w' => e = .returned (.bool false) ∧ Below w.heap.size w w' := by
  have d1 : decide (0 ≤ n) = true := by simp; omega
  have d2 : decide (n < 32) = true := by simp; omega
  have d3 : decide (n ≤ 31) = true := by simp; omega
  have hp0 : (p == 0) = false := by simpa using h2
  go_enter Tryd.func43, Tryd.ntmps43
  go_wp2_with (fail)
  first | go_ret | (go_quiet ((first | (go_at_call 71; exact Calls.quiet_of_same (devSize_s_2 _)))); go_wp2; go_ret)
  exact ⟨rfl, by repeat (first | exact Below.refl _ _ | refine Below.alloc ?_ (by simp) _ | refine Below.drew ?_ | refine bel_drewN ?_ _)⟩
set_option maxRecDepth 100000 in
set_option maxHeartbeats 400000 in
theorem devOk_s_2_ok (n p : Int) (h0 : 0 ≤ n) (h1 : n < 32) (h2 : p = 0) (w : World) : Calls Tryd.prog 43 #[.agg #[.int .i64 2, .int .i64 n, .int .i64 p]] w fun e w' => e = .returned (.bool true) ∧ Below w.heap.size w w' := by
  have d1 : decide (0 ≤ n) = true := by simp; omega
  have d2 : decide (n < 32) = true := by simp; omega
  have d3 : decide (n ≤ 31) = true := by simp; omega
  have hp0 : (p == 0) = true := by simpa using h2
  go_enter Tryd.func43, Tryd.ntmps43
  go_wp2_with (fail)
  first | go_ret | (go_quiet ((first | (go_at_call 71; exact Calls.quiet_of_same (devSize_s_2 _)))); go_wp2; go_ret)
  exact ⟨rfl, by repeat (first | exact Below.refl _ _ | refine Below.alloc ?_ (by simp) _ | refine Below.drew ?_ | refine bel_drewN ?_ _)⟩
set_option maxRecDepth 100000 in
set_option maxHeartbeats 400000 in
theorem devOk_s_3_lo (n p : Int) (h0 : n < 0) (w : World) : Calls Tryd.prog 43 #[.agg #[.int .i64 3, .int .i64 n, .int .i64 p]] w fun e w' => e = .returned (.bool false) ∧ Below w.heap.size w w' := by
  have d1 : decide (0 ≤ n) = false := by simp; omega
  go_enter Tryd.func43, Tryd.ntmps43
  go_wp2_with (fail)
  first | go_ret | (go_quiet ((first | (go_at_call 71; exact Calls.quiet_of_same (devSize_s_3 _)))); go_wp2; go_ret)
  exact ⟨rfl, by repeat (first | exact Below.refl _ _ | refine Below.alloc ?_ (by simp) _ | refine Below.drew ?_ | refine bel_drewN ?_ _)⟩
set_option maxRecDepth 100000 in
set_option maxHeartbeats 400000 in
theorem devOk_s_3_hi (n p : Int) (h0 : 64 ≤ n) (w : World) : Calls Tryd.prog 43 #[.agg #[.int .i64 3, .int .i64 n, .int .i64 p]] w fun e w' => e = .returned (.bool false) ∧ Below w.heap.size w w' := by
  have d1 : decide (0 ≤ n) = true := by simp; omega
  have d2 : decide (n < 64) = false := by simp; omega
  have d3 : decide (n ≤ 63) = false := by simp; omega
  go_enter Tryd.func43, Tryd.ntmps43
  go_wp2_with (fail)
  first | go_ret | (go_quiet ((first | (go_at_call 71; exact Calls.quiet_of_same (devSize_s_3 _)))); go_wp2; go_ret)
  exact ⟨rfl, by repeat (first | exact Below.refl _ _ | refine Below.alloc ?_ (by simp) _ | refine Below.drew ?_ | refine bel_drewN ?_ _)⟩
set_option maxRecDepth 100000 in
set_option maxHeartbeats 400000 in
theorem devOk_s_3_no (n p : Int) (h0 : 0 ≤ n) (h1 : n < 64) (h2 : ¬ p = 0) (w : World) : Calls Tryd.prog 43 #[.agg #[.int .i64 3, .int .i64 n, .int .i64 p]] w fun e w' => e = .returned (.bool false) ∧ Below w.heap.size w w' := by
  have d1 : decide (0 ≤ n) = true := by simp; omega
  have d2 : decide (n < 64) = true := by simp; omega
  have d3 : decide (n ≤ 63) = true := by simp; omega
  have hp0 : (p == 0) = false := by simpa using h2
  go_enter Tryd.func43, Tryd.ntmps43
  go_wp2_with (fail)
  first | go_ret | (go_quiet ((first | (go_at_call 71; exact Calls.quiet_of_same (devSize_s_3 _)))); go_wp2; go_ret)
  exact ⟨rfl, by repeat (first | exact Below.refl _ _ | refine Below.alloc ?_ (by simp) _ | refine Below.drew ?_ | refine bel_drewN ?_ _)⟩
set_option maxRecDepth 100000 in
set_option maxHeartbeats 400000 in
theorem devOk_s_3_ok (n p : Int) (h0 : 0 ≤ n) (h1 : n < 64) (h2 : p = 0) (w : World) : Calls Tryd.prog 43 #[.agg #[.int .i64 3, .int .i64 n, .int .i64 p]] w fun e w' => e = .returned (.bool true) ∧ Below w.heap.size w w' := by
  have d1 : decide (0 ≤ n) = true := by simp; omega
  have d2 : decide (n < 64) = true := by simp; omega
  have d3 : decide (n ≤ 63) = true := by simp; omega
  have hp0 : (p == 0) = true := by simpa using h2
  go_enter Tryd.func43, Tryd.ntmps43
  go_wp2_with (fail)
  first | go_ret | (go_quiet ((first | (go_at_call 71; exact Calls.quiet_of_same (devSize_s_3 _)))); go_wp2; go_ret)
  exact ⟨rfl, by repeat (first | exact Below.refl _ _ | refine Below.alloc ?_ (by simp) _ | refine Below.drew ?_ | refine bel_drewN ?_ _)⟩
set_option maxRecDepth 100000 in
set_option maxHeartbeats 400000 in
theorem devOk_s_4_lo (n p : Int) (h0 : n < 0) (w : World) : Calls Tryd.prog 43 #[.agg #[.int .i64 4, .int .i64 n, .int .i64 p]] w fun e w' => e = .returned (.bool false) ∧ Below w.heap.size w w' := by
  have d1 : decide (0 ≤ n) = false := by simp; omega
  go_enter Tryd.func43, Tryd.ntmps43
  go_wp2_with (fail)
  first | go_ret | (go_quiet ((first | (go_at_call 71; exact Calls.quiet_of_same (devSize_s_4 _)))); go_wp2; go_ret)
  exact ⟨rfl, by repeat (first | exact Below.refl _ _ | refine Below.alloc ?_ (by simp) _ | refine Below.drew ?_ | refine bel_drewN ?_ _)⟩
set_option maxRecDepth 100000 in
set_option maxHeartbeats 400000 in
theorem devOk_s_4_hi (n p : Int) (h0 : 16 ≤ n) (w : World) : Calls Tryd.prog 43 #[.agg #[.int .i64 4, .int .i64 n, .int .i64 p]] w fun e w' => e = .returned (.bool false) ∧ Below w.heap.size w w' := by
  have d1 : decide (0 ≤ n) = true := by simp; omega
  have d2 : decide (n < 16) = false := by simp; omega
  have d3 : decide (n ≤ 15) = false := by simp; omega
  go_enter Tryd.func43, Tryd.ntmps43
  go_wp2_with (fail)
  first | go_ret | (go_quiet ((first | (go_at_call 71; exact Calls.quiet_of_same (devSize_s_4 _)))); go_wp2; go_ret)
  exact ⟨rfl, by repeat (first | exact Below.refl _ _ | refine Below.alloc ?_ (by simp) _ | refine Below.drew ?_ | refine bel_drewN ?_ _)⟩
set_option maxRecDepth 100000 in
set_option maxHeartbeats 400000 in
theorem devOk_s_4_no (n p : Int) (h0 : 0 ≤ n) (h1 : n < 16) (h2 : ¬ p = 0) (w : World) : Calls Tryd.prog 43 #[.agg #[.int .i64 4, .int .i64 n, .int .i64 p]] w fun e w' => e = .returned (.bool false) ∧ Below w.heap.size w w' := by
  have d1 : decide (0 ≤ n) = true := by simp; omega
  have d2 : decide (n < 16) = true := by simp; omega
  have d3 : decide (n ≤ 15) = true := by simp; omega
  have hp0 : (p == 0) = false := by simpa using h2
  go_enter Tryd.func43, Tryd.ntmps43
  go_wp2_with (fail)
  first | go_ret | (go_quiet ((first | (go_at_call 71; exact Calls.quiet_of_same (devSize_s_4 _)))); go_wp2; go_ret)
  exact ⟨rfl, by repeat (first | exact Below.refl _ _ | refine Below.alloc ?_ (by simp) _ | refine Below.drew ?_ | refine bel_drewN ?_ _)⟩
set_option maxRecDepth 100000 in
set_option maxHeartbeats 400000 in
theorem devOk_s_4_ok (n p : Int) (h0 : 0 ≤ n) (h1 : n < 16) (h2 : p = 0) (w : World) : Calls Tryd.prog 43 #[.agg #[.int .i64 4, .int .i64 n, .int .i64 p]] w fun e w' => e = .returned (.bool true) ∧ Below w.heap.size w w' := by
  have d1 : decide (0 ≤ n) = true := by simp; omega
  have d2 : decide (n < 16) = true := by simp; omega
  have d3 : decide (n ≤ 15) = true := by simp; omega
  have hp0 : (p == 0) = true := by simpa using h2
  go_enter Tryd.func43, Tryd.ntmps43
  go_wp2_with (fail)
  first | go_ret | (go_quiet ((first | (go_at_call 71; exact Calls.quiet_of_same (devSize_s_4 _)))); go_wp2; go_ret)
  exact ⟨rfl, by repeat (first | exact Below.refl _ _ | refine Below.alloc ?_ (by simp) _ | refine Below.drew ?_ | refine bel_drewN ?_ _)⟩
set_option maxRecDepth 100000 in
set_option maxHeartbeats 400000 in
theorem devOk_s_5_lo (n p : Int) (h0 : n < 0) (w : World) : Calls Tryd.prog 43 #[.agg #[.int .i64 5, .int .i64 n, .int .i64 p]] w fun e w' => e = .returned (.bool false) ∧ Below w.heap.size w w' := by
  have d1 : decide (0 ≤ n) = false := by simp; omega
  go_enter Tryd.func43, Tryd.ntmps43
  go_wp2_with (fail)
  first | go_ret | (go_quiet ((first | (go_at_call 71; exact Calls.quiet_of_same (devSize_s_5 _)))); go_wp2; go_ret)
  exact ⟨rfl, by repeat (first | exact Below.refl _ _ | refine Below.alloc ?_ (by simp) _ | refine Below.drew ?_ | refine bel_drewN ?_ _)⟩
set_option maxRecDepth 100000 in
set_option maxHeartbeats 400000 in
theorem devOk_s_5_hi (n p : Int) (h0 : 32 ≤ n) (w : World) : Calls Tryd.prog 43 #[.agg #[.int .i64 5, .int .i64 n, .int .i64 p]] w fun e w' => e = .returned (.bool false) ∧ Below w.heap.size w w' := by
  have d1 : decide (0 ≤ n) = true := by simp; omega
  have d2 : decide (n < 32) = false := by simp; omega
  have d3 : decide (n ≤ 31) = false := by simp; omega
  go_enter Tryd.func43, Tryd.ntmps43
  go_wp2_with (fail)
  first | go_ret | (go_quiet ((first | (go_at_call 71; exact Calls.quiet_of_same (devSize_s_5 _)))); go_wp2; go_ret)
  exact ⟨rfl, by repeat (first | exact Below.refl _ _ | refine Below.alloc ?_ (by simp) _ | refine Below.drew ?_ | refine bel_drewN ?_ _)⟩
set_option maxRecDepth 100000 in
set_option maxHeartbeats 400000 in
theorem devOk_s_5_no (n p : Int) (h0 : 0 ≤ n) (h1 : n < 32) (h2 : ¬ p = 0) (w : World) : Calls Tryd.prog 43 #[.agg #[.int .i64 5, .int .i64 n, .int .i64 p]] w fun e w' => e = .returned (.bool false) ∧ Below w.heap.size w w' := by
  have d1 : decide (0 ≤ n) = true := by simp; omega
  have d2 : decide (n < 32) = true := by simp; omega
  have d3 : decide (n ≤ 31) = true := by simp; omega
  have hp0 : (p == 0) = false := by simpa using h2
  go_enter Tryd.func43, Tryd.ntmps43
  go_wp2_with (fail)
  first | go_ret | (go_quiet ((first | (go_at_call 71; exact Calls.quiet_of_same (devSize_s_5 _)))); go_wp2; go_ret)
  exact ⟨rfl, by repeat (first | exact Below.refl _ _ | refine Below.alloc ?_ (by simp) _ | refine Below.drew ?_ | refine bel_drewN ?_ _)⟩
set_option maxRecDepth 100000 in
set_option maxHeartbeats 400000 in
theorem devOk_s_5_ok (n p : Int) (h0 : 0 ≤ n) (h1 : n < 32) (h2 : p = 0) (w : World) : Calls Tryd.prog 43 #[.agg #[.int .i64 5, .int .i64 n, .int .i64 p]] w fun e w' => e = .returned (.bool true) ∧ Below w.heap.size w w' := by
  have d1 : decide (0 ≤ n) = true := by simp; omega
  have d2 : decide (n < 32) = true := by simp; omega
  have d3 : decide (n ≤ 31) = true := by simp; omega
  have hp0 : (p == 0) = true := by simpa using h2
  go_enter Tryd.func43, Tryd.ntmps43
  go_wp2_with (fail)
  first | go_ret | (go_quiet ((first | (go_at_call 71; exact Calls.quiet_of_same (devSize_s_5 _)))); go_wp2; go_ret)
  exact ⟨rfl, by repeat (first | exact Below.refl _ _ | refine Below.alloc ?_ (by simp) _ | refine Below.drew ?_ | refine bel_drewN ?_ _)⟩
set_option maxRecDepth 100000 in
set_option maxHeartbeats 400000 in
theorem devOk_s_6_lo (n p : Int) (h0 : n < 0) (w : World) : Calls Tryd.prog 43 #[.agg #[.int .i64 6, .int .i64 n, .int .i64 p]] w fun e w' => e = .returned (.bool false) ∧ Below w.heap.size w w' := by
  have d1 : decide (0 ≤ n) = false := by simp; omega
  go_enter Tryd.func43, Tryd.ntmps43
  go_wp2_with (fail)
  first | go_ret | (go_quiet ((first | (go_at_call 71; exact Calls.quiet_of_same (devSize_s_6 _)))); go_wp2; go_ret)
  exact ⟨rfl, by repeat (first | exact Below.refl _ _ | refine Below.alloc ?_ (by simp) _ | refine Below.drew ?_ | refine bel_drewN ?_ _)⟩
set_option maxRecDepth 100000 in
set_option maxHeartbeats 400000 in
theorem devOk_s_6_hi (n p : Int) (h0 : 5 ≤ n) (w : World) : Calls Tryd.prog 43 #[.agg #[.int .i64 6, .int .i64 n, .int .i64 p]] w fun e w' => e = .returned (.bool false) ∧ Below w.heap.size w w' := by
  have d1 : decide (0 ≤ n) = true := by simp; omega
  have d2 : decide (n < 5) = false := by simp; omega
  have d3 : decide (n ≤ 4) = false := by simp; omega
  go_enter Tryd.func43, Tryd.ntmps43
  go_wp2_with (fail)
  first | go_ret | (go_quiet ((first | (go_at_call 71; exact Calls.quiet_of_same (devSize_s_6 _)))); go_wp2; go_ret)
  exact ⟨rfl, by repeat (first | exact Below.refl _ _ | refine Below.alloc ?_ (by simp) _ | refine Below.drew ?_ | refine bel_drewN ?_ _)⟩
set_option maxRecDepth 100000 in
set_option maxHeartbeats 400000 in
theorem devOk_s_6_no (n p : Int) (h0 : 0 ≤ n) (h1 : n < 5) (h2 : ¬ p = 0) (w : World) : Calls Tryd.prog 43 #[.agg #[.int .i64 6, .int .i64 n, .int .i64 p]] w fun e w' => e = .returned (.bool false) ∧ Below w.heap.size w w' := by
  have d1 : decide (0 ≤ n) = true := by simp; omega
  have d2 : decide (n < 5) = true := by simp; omega
  have d3 : decide (n ≤ 4) = true := by simp; omega
  have hp0 : (p == 0) = false := by simpa using h2
  go_enter Tryd.func43, Tryd.ntmps43
  go_wp2_with (fail)
  first | go_ret | (go_quiet ((first | (go_at_call 71; exact Calls.quiet_of_same (devSize_s_6 _)))); go_wp2; go_ret)
  exact ⟨rfl, by repeat (first | exact Below.refl _ _ | refine Below.alloc ?_ (by simp) _ | refine Below.drew ?_ | refine bel_drewN ?_ _)⟩
set_option maxRecDepth 100000 in
set_option maxHeartbeats 400000 in
theorem devOk_s_6_ok (n p : Int) (h0 : 0 ≤ n) (h1 : n < 5) (h2 : p = 0) (w : World) : Calls Tryd.prog 43 #[.agg #[.int .i64 6, .int .i64 n, .int .i64 p]] w fun e w' => e = .returned (.bool true) ∧ Below w.heap.size w w' := by
  have d1 : decide (0 ≤ n) = true := by simp; omega
  have d2 : decide (n < 5) = true := by simp; omega
  have d3 : decide (n ≤ 4) = true := by simp; omega
  have hp0 : (p == 0) = true := by simpa using h2
  go_enter Tryd.func43, Tryd.ntmps43
  go_wp2_with (fail)
  first | go_ret | (go_quiet ((first | (go_at_call 71; exact Calls.quiet_of_same (devSize_s_6 _)))); go_wp2; go_ret)
  exact ⟨rfl, by repeat (first | exact Below.refl _ _ | refine Below.alloc ?_ (by simp) _ | refine Below.drew ?_ | refine bel_drewN ?_ _)⟩
set_option maxRecDepth 100000 in
set_option maxHeartbeats 400000 in
theorem devOk_s_7_lo (n p : Int) (h0 : n < 0) (w : World) : Calls Tryd.prog 43 #[.agg #[.int .i64 7, .int .i64 n, .int .i64 p]] w fun e w' => e = .returned (.bool false) ∧ Below w.heap.size w w' := by
  have d1 : decide (0 ≤ n) = false := by simp; omega
  go_enter Tryd.func43, Tryd.ntmps43
  go_wp2_with (fail)
  first | go_ret | (go_quiet ((first | (go_at_call 71; exact Calls.quiet_of_same (devSize_s_7 _)))); go_wp2; go_ret)
  exact ⟨rfl, by repeat (first | exact Below.refl _ _ | refine Below.alloc ?_ (by simp) _ | refine Below.drew ?_ | refine bel_drewN ?_ _)⟩
set_option maxRecDepth 100000 in
set_option maxHeartbeats 400000 in
theorem devOk_s_7_hi (n p : Int) (h0 : 16 ≤ n) (w : World) : Calls Tryd.prog 43 #[.agg #[.int .i64 7, .int .i64 n, .int .i64 p]] w fun e w' => e = .returned (.bool false) ∧ Below w.heap.size w w' := by
  have d1 : decide (0 ≤ n) = true := by simp; omega
  have d2 : decide (n < 16) = false := by simp; omega
  have d3 : decide (n ≤ 15) = false := by simp; omega
  go_enter Tryd.func43, Tryd.ntmps43
  go_wp2_with (fail)
  first | go_ret | (go_quiet ((first | (go_at_call 71; exact Calls.quiet_of_same (devSize_s_7 _)))); go_wp2; go_ret)
  exact ⟨rfl, by repeat (first | exact Below.refl _ _ | refine Below.alloc ?_ (by simp) _ | refine Below.drew ?_ | refine bel_drewN ?_ _)⟩
set_option maxRecDepth 100000 in
set_option maxHeartbeats 400000 in
theorem devOk_s_7_no (n p : Int) (h0 : 0 ≤ n) (h1 : n < 16) (h2 : ¬ p = 0) (w : World) : Calls Tryd.prog 43 #[.agg #[.int .i64 7, .int .i64 n, .int .i64 p]] w fun e w' => e = .returned (.bool false) ∧ Below w.heap.size w w' := by
  have d1 : decide (0 ≤ n) = true := by simp; omega
  have d2 : decide (n < 16) = true := by simp; omega
  have d3 : decide (n ≤ 15) = true := by simp; omega
  have hp0 : (p == 0) = false := by simpa using h2
  go_enter Tryd.func43, Tryd.ntmps43
  go_wp2_with (fail)
  first | go_ret | (go_quiet ((first | (go_at_call 71; exact Calls.quiet_of_same (devSize_s_7 _)))); go_wp2; go_ret)
  exact ⟨rfl, by repeat (first | exact Below.refl _ _ | refine Below.alloc ?_ (by simp) _ | refine Below.drew ?_ | refine bel_drewN ?_ _)⟩
set_option maxRecDepth 100000 in
set_option maxHeartbeats 400000 in
theorem devOk_s_7_ok (n p : Int) (h0 : 0 ≤ n) (h1 : n < 16) (h2 : p = 0) (w : World) : Calls Tryd.prog 43 #[.agg #[.int .i64 7, .int .i64 n, .int .i64 p]] w fun e w' => e = .returned (.bool true) ∧ Below w.heap.size w w' := by
  have d1 : decide (0 ≤ n) = true := by simp; omega
  have d2 : decide (n < 16) = true := by simp; omega
  have d3 : decide (n ≤ 15) = true := by simp; omega
  have hp0 : (p == 0) = true := by simpa using h2
  go_enter Tryd.func43, Tryd.ntmps43
  go_wp2_with (fail)
  first | go_ret | (go_quiet ((first | (go_at_call 71; exact Calls.quiet_of_same (devSize_s_7 _)))); go_wp2; go_ret)
  exact ⟨rfl, by repeat (first | exact Below.refl _ _ | refine Below.alloc ?_ (by simp) _ | refine Below.drew ?_ | refine bel_drewN ?_ _)⟩
set_option maxRecDepth 100000 in
set_option maxHeartbeats 400000 in
theorem devOk_s_8_lo (n p : Int) (h0 : n < 0) (w : World) : Calls Tryd.prog 43 #[.agg #[.int .i64 8, .int .i64 n, .int .i64 p]] w fun e w' => e = .returned (.bool false) ∧ Below w.heap.size w w' := by
  have d1 : decide (0 ≤ n) = false := by simp; omega
  go_enter Tryd.func43, Tryd.ntmps43
  go_wp2_with (fail)
  first | go_ret | (go_quiet ((first | (go_at_call 71; exact Calls.quiet_of_same (devSize_s_8 _)))); go_wp2; go_ret)
  exact ⟨rfl, by repeat (first | exact Below.refl _ _ | refine Below.alloc ?_ (by simp) _ | refine Below.drew ?_ | refine bel_drewN ?_ _)⟩
set_option maxRecDepth 100000 in
set_option maxHeartbeats 400000 in
theorem devOk_s_8_hi (n p : Int) (h0 : 16 ≤ n) (w : World) : Calls Tryd.prog 43 #[.agg #[.int .i64 8, .int .i64 n, .int .i64 p]] w fun e w' => e = .returned (.bool false) ∧ Below w.heap.size w w' := by
  have d1 : decide (0 ≤ n) = true := by simp; omega
  have d2 : decide (n < 16) = false := by simp; omega
  have d3 : decide (n ≤ 15) = false := by simp; omega
  go_enter Tryd.func43, Tryd.ntmps43
  go_wp2_with (fail)
  first | go_ret | (go_quiet ((first | (go_at_call 71; exact Calls.quiet_of_same (devSize_s_8 _)))); go_wp2; go_ret)
  exact ⟨rfl, by repeat (first | exact Below.refl _ _ | refine Below.alloc ?_ (by simp) _ | refine Below.drew ?_ | refine bel_drewN ?_ _)⟩
set_option maxRecDepth 100000 in
set_option maxHeartbeats 400000 in
theorem devOk_s_8_no (n p : Int) (h0 : 0 ≤ n) (h1 : n < 16) (h2 : ¬ p = 0) (w : World) : Calls Tryd.prog 43 #[.agg #[.int .i64 8, .int .i64 n, .int .i64 p]] w fun e w' => e = .returned (.bool false) ∧ Below w.heap.size w w' := by
  have d1 : decide (0 ≤ n) = true := by simp; omega
  have d2 : decide (n < 16) = true := by simp; omega
  have d3 : decide (n ≤ 15) = true := by simp; omega
  have hp0 : (p == 0) = false := by simpa using h2
  go_enter Tryd.func43, Tryd.ntmps43
  go_wp2_with (fail)
  first | go_ret | (go_quiet ((first | (go_at_call 71; exact Calls.quiet_of_same (devSize_s_8 _)))); go_wp2; go_ret)
  exact ⟨rfl, by repeat (first | exact Below.refl _ _ | refine Below.alloc ?_ (by simp) _ | refine Below.drew ?_ | refine bel_drewN ?_ _)⟩
set_option maxRecDepth 100000 in
set_option maxHeartbeats 400000 in
theorem devOk_s_8_ok (n p : Int) (h0 : 0 ≤ n) (h1 : n < 16) (h2 : p = 0) (w : World) : Calls Tryd.prog 43 #[.agg #[.int .i64 8, .int .i64 n, .int .i64 p]] w fun e w' => e = .returned (.bool true) ∧ Below w.heap.size w w' := by
  have d1 : decide (0 ≤ n) = true := by simp; omega
  have d2 : decide (n < 16) = true := by simp; omega
  have d3 : decide (n ≤ 15) = true := by simp; omega
  have hp0 : (p == 0) = true := by simpa using h2
  go_enter Tryd.func43, Tryd.ntmps43
  go_wp2_with (fail)
  first | go_ret | (go_quiet ((first | (go_at_call 71; exact Calls.quiet_of_same (devSize_s_8 _)))); go_wp2; go_ret)
  exact ⟨rfl, by repeat (first | exact Below.refl _ _ | refine Below.alloc ?_ (by simp) _ | refine Below.drew ?_ | refine bel_drewN ?_ _)⟩
set_option maxRecDepth 100000 in
set_option maxHeartbeats 400000 in
theorem devOk_s_9_lo (n p : Int) (h0 : n < 0) (w : World) : Calls Tryd.prog 43 #[.agg #[.int .i64 9, .int .i64 n, .int .i64 p]] w fun e w' => e = .returned (.bool false) ∧ Below w.heap.size w w' := by
  have d1 : decide (0 ≤ n) = false := by simp; omega
  go_enter Tryd.func43, Tryd.ntmps43
  go_wp2_with (fail)
  first | go_ret | (go_quiet ((first | (go_at_call 71; exact Calls.quiet_of_same (devSize_s_9 _)))); go_wp2; go_ret)
  exact ⟨rfl, by repeat (first | exact Below.refl _ _ | refine Below.alloc ?_ (by simp) _ | refine Below.drew ?_ | refine bel_drewN ?_ _)⟩
set_option maxRecDepth 100000 in
set_option maxHeartbeats 400000 in
theorem devOk_s_9_hi (n p : Int) (h0 : 32 ≤ n) (w : World) : Calls Tryd.prog 43 #[.agg #[.int .i64 9, .int .i64 n, .int .i64 p]] w fun e w' => e = .returned (.bool false) ∧ Below w.heap.size w w' := by
  have d1 : decide (0 ≤ n) = true := by simp; omega
  have d2 : decide (n < 32) = false := by simp; omega
  have d3 : decide (n ≤ 31) = false := by simp; omega
  go_enter Tryd.func43, Tryd.ntmps43
  go_wp2_with (fail)
  first | go_ret | (go_quiet ((first | (go_at_call 71; exact Calls.quiet_of_same (devSize_s_9 _)))); go_wp2; go_ret)
  exact ⟨rfl, by repeat (first | exact Below.refl _ _ | refine Below.alloc ?_ (by simp) _ | refine Below.drew ?_ | refine bel_drewN ?_ _)⟩
set_option maxRecDepth 100000 in
set_option maxHeartbeats 400000 in
theorem devOk_s_9_no (n p : Int) (h0 : 0 ≤ n) (h1 : n < 32) (h2 : ¬ p = 0) (w : World) : Calls Tryd.prog 43 #[.agg #[.int .i64 9, .int .i64 n, .int .i64 p]] w fun e w' => e = .returned (.bool false) ∧ Below w.heap.size w w' := by
  have d1 : decide (0 ≤ n) = true := by simp; omega
  have d2 : decide (n < 32) = true := by simp; omega
  have d3 : decide (n ≤ 31) = true := by simp; omega
  have hp0 : (p == 0) = false := by simpa using h2
  go_enter Tryd.func43, Tryd.ntmps43
  go_wp2_with (fail)
  first | go_ret | (go_quiet ((first | (go_at_call 71; exact Calls.quiet_of_same (devSize_s_9 _)))); go_wp2; go_ret)
  exact ⟨rfl, by repeat (first | exact Below.refl _ _ | refine Below.alloc ?_ (by simp) _ | refine Below.drew ?_ | refine bel_drewN ?_ _)⟩
set_option maxRecDepth 100000 in
set_option maxHeartbeats 400000 in
theorem devOk_s_9_ok (n p : Int) (h0 : 0 ≤ n) (h1 : n < 32) (h2 : p = 0) (w : World) : Calls Tryd.prog 43 #[.agg #[.int .i64 9, .int .i64 n, .int .i64 p]] w fun e w' => e = .returned (.bool true) ∧ Below w.heap.size w w' := by
  have d1 : decide (0 ≤ n) = true := by simp; omega
  have d2 : decide (n < 32) = true := by simp; omega
  have d3 : decide (n ≤ 31) = true := by simp; omega
  have hp0 : (p == 0) = true := by simpa using h2
  go_enter Tryd.func43, Tryd.ntmps43
  go_wp2_with (fail)
  first | go_ret | (go_quiet ((first | (go_at_call 71; exact Calls.quiet_of_same (devSize_s_9 _)))); go_wp2; go_ret)
  exact ⟨rfl, by repeat (first | exact Below.refl _ _ | refine Below.alloc ?_ (by simp) _ | refine Below.drew ?_ | refine bel_drewN ?_ _)⟩
set_option maxRecDepth 100000 in
set_option maxHeartbeats 400000 in
theorem devOk_s_10_lo (n p : Int) (h0 : n < 0) (w : World) : Calls Tryd.prog 43 #[.agg #[.int .i64 10, .int .i64 n, .int .i64 p]] w fun e w' => e = .returned (.bool false) ∧ Below w.heap.size w w' := by
  have d1 : decide (0 ≤ n) = false := by simp; omega
  go_enter Tryd.func43, Tryd.ntmps43
  go_wp2_with (fail)
  first | go_ret | (go_quiet ((first | (go_at_call 71; exact Calls.quiet_of_same (devSize_s_10 _)))); go_wp2; go_ret)
  exact ⟨rfl, by repeat (first | exact Below.refl _ _ | refine Below.alloc ?_ (by simp) _ | refine Below.drew ?_ | refine bel_drewN ?_ _)⟩
set_option maxRecDepth 100000 in
set_option maxHeartbeats 400000 in
theorem devOk_s_10_hi (n p : Int) (h0 : 16 ≤ n) (w : World) : Calls Tryd.prog 43 #[.agg #[.int .i64 10, .int .i64 n, .int .i64 p]] w fun e w' => e = .returned (.bool false) ∧ Below w.heap.size w w' := by
  have d1 : decide (0 ≤ n) = true := by simp; omega
  have d2 : decide (n < 16) = false := by simp; omega
  have d3 : decide (n ≤ 15) = false := by simp; omega
  go_enter Tryd.func43, Tryd.ntmps43
  go_wp2_with (fail)
  first | go_ret | (go_quiet ((first | (go_at_call 71; exact Calls.quiet_of_same (devSize_s_10 _)))); go_wp2; go_ret)
  exact ⟨rfl, by repeat (first | exact Below.refl _ _ | refine Below.alloc ?_ (by simp) _ | refine Below.drew ?_ | refine bel_drewN ?_ _)⟩
set_option maxRecDepth 100000 in
set_option maxHeartbeats 400000 in
theorem devOk_s_10_no (n p : Int) (h0 : 0 ≤ n) (h1 : n < 16) (h2 : ¬ p = 0) (w : World) : Calls Tryd.prog 43 #[.agg #[.int .i64 10, .int .i64 n, .int .i64 p]] w fun e w' => e = .returned (.bool false) ∧ Below w.heap.size w w' := by
  have d1 : decide (0 ≤ n) = true := by simp; omega
  have d2 : decide (n < 16) = true := by simp; omega
  have d3 : decide (n ≤ 15) = true := by simp; omega
  have hp0 : (p == 0) = false := by simpa using h2
  go_enter Tryd.func43, Tryd.ntmps43
  go_wp2_with (fail)
  first | go_ret | (go_quiet ((first | (go_at_call 71; exact Calls.quiet_of_same (devSize_s_10 _)))); go_wp2; go_ret)
  exact ⟨rfl, by repeat (first | exact Below.refl _ _ | refine Below.alloc ?_ (by simp) _ | refine Below.drew ?_ | refine bel_drewN ?_ _)⟩
set_option maxRecDepth 100000 in
set_option maxHeartbeats 400000 in
theorem devOk_s_10_ok (n p : Int) (h0 : 0 ≤ n) (h1 : n < 16) (h2 : p = 0) (w : World) : Calls Tryd.prog 43 #[.agg #[.int .i64 10, .int .i64 n, .int .i64 p]] w fun e w' => e = .returned (.bool true) ∧ Below w.heap.size w w' := by
  have d1 : decide (0 ≤ n) = true := by simp; omega
  have d2 : decide (n < 16) = true := by simp; omega
  have d3 : decide (n ≤ 15) = true := by simp; omega
  have hp0 : (p == 0) = true := by simpa using h2
  go_enter Tryd.func43, Tryd.ntmps43
  go_wp2_with (fail)
  first | go_ret | (go_quiet ((first | (go_at_call 71; exact Calls.quiet_of_same (devSize_s_10 _)))); go_wp2; go_ret)
  exact ⟨rfl, by repeat (first | exact Below.refl _ _ | refine Below.alloc ?_ (by simp) _ | refine Below.drew ?_ | refine bel_drewN ?_ _)⟩
set_option maxRecDepth 100000 in
set_option maxHeartbeats 400000 in
theorem devOk_s_11_lo (n p : Int) (h0 : n < (-32768)) (w : World) : Calls Tryd.prog 43 #[.agg #[.int .i64 11, .int .i64 n, .int .i64 p]] w fun e w' => e = .returned (.bool false) ∧ Below w.heap.size w w' := by
  have d1 : decide ((-32768) ≤ n) = false := by simp; omega
  go_enter Tryd.func43, Tryd.ntmps43
  go_wp2_with (fail)
  first | go_ret | (go_quiet (fail); go_wp2; go_ret)
  exact ⟨rfl, by repeat (first | exact Below.refl _ _ | refine Below.alloc ?_ (by simp) _ | refine Below.drew ?_ | refine bel_drewN ?_ _)⟩
set_option maxRecDepth 100000 in
set_option maxHeartbeats 400000 in
theorem devOk_s_11_hi (n p : Int) (h0 : 32768 ≤ n) (w : World) : Calls Tryd.prog 43 #[.agg #[.int .i64 11, .int .i64 n, .int .i64 p]] w fun e w' => e = .returned (.bool false) ∧ Below w.heap.size w w' := by
  have d1 : decide ((-32768) ≤ n) = true := by simp; omega
  have d2 : decide (n < 32768) = false := by simp; omega
  have d3 : decide (n ≤ 32767) = false := by simp; omega
  go_enter Tryd.func43, Tryd.ntmps43
  go_wp2_with (fail)
  first | go_ret | (go_quiet (fail); go_wp2; go_ret)
  exact ⟨rfl, by repeat (first | exact Below.refl _ _ | refine Below.alloc ?_ (by simp) _ | refine Below.drew ?_ | refine bel_drewN ?_ _)⟩
set_option maxRecDepth 100000 in
set_option maxHeartbeats 400000 in
theorem devOk_s_11_no (n p : Int) (h0 : (-32768) ≤ n) (h1 : n < 32768) (h2 : ¬ p = 0) (w : World) : Calls Tryd.prog 43 #[.agg #[.int .i64 11, .int .i64 n, .int .i64 p]] w fun e w' => e = .returned (.bool false) ∧ Below w.heap.size w w' := by
  have d1 : decide ((-32768) ≤ n) = true := by simp; omega
  have d2 : decide (n < 32768) = true := by simp; omega
  have d3 : decide (n ≤ 32767) = true := by simp; omega
  have hp0 : (p == 0) = false := by simpa using h2
  go_enter Tryd.func43, Tryd.ntmps43
  go_wp2_with (fail)
  first | go_ret | (go_quiet (fail); go_wp2; go_ret)
  exact ⟨rfl, by repeat (first | exact Below.refl _ _ | refine Below.alloc ?_ (by simp) _ | refine Below.drew ?_ | refine bel_drewN ?_ _)⟩
set_option maxRecDepth 100000 in
set_option maxHeartbeats 400000 in
theorem devOk_s_11_ok (n p : Int) (h0 : (-32768) ≤ n) (h1 : n < 32768) (h2 : p = 0) (w : World) : Calls Tryd.prog 43 #[.agg #[.int .i64 11, .int .i64 n, .int .i64 p]] w fun e w' => e = .returned (.bool true) ∧ Below w.heap.size w w' := by
  have d1 : decide ((-32768) ≤ n) = true := by simp; omega
  have d2 : decide (n < 32768) = true := by simp; omega
  have d3 : decide (n ≤ 32767) = true := by simp; omega
  have hp0 : (p == 0) = true := by simpa using h2
  go_enter Tryd.func43, Tryd.ntmps43
  go_wp2_with (fail)
  first | go_ret | (go_quiet (fail); go_wp2; go_ret)
  exact ⟨rfl, by repeat (first | exact Below.refl _ _ | refine Below.alloc ?_ (by simp) _ | refine Below.drew ?_ | refine bel_drewN ?_ _)⟩
set_option maxRecDepth 100000 in
set_option maxHeartbeats 400000 in
theorem devOk_s_13_lo (n p : Int) (h0 : n < 0) (w : World) : Calls Tryd.prog 43 #[.agg #[.int .i64 13, .int .i64 n, .int .i64 p]] w fun e w' => e = .returned (.bool false) ∧ Below w.heap.size w w' := by
  have d1 : decide (0 ≤ n) = false := by simp; omega
  go_enter Tryd.func43, Tryd.ntmps43
  go_wp2_with (fail)
  first | go_ret | (go_quiet (fail); go_wp2; go_ret)
  exact ⟨rfl, by repeat (first | exact Below.refl _ _ | refine Below.alloc ?_ (by simp) _ | refine Below.drew ?_ | refine bel_drewN ?_ _)⟩
set_option maxRecDepth 100000 in
set_option maxHeartbeats 400000 in
theorem devOk_s_13_hi (n p : Int) (h0 : 4 ≤ n) (w : World) : Calls Tryd.prog 43 #[.agg #[.int .i64 13, .int .i64 n, .int .i64 p]] w fun e w' => e = .returned (.bool false) ∧ Below w.heap.size w w' := by
  have d1 : decide (0 ≤ n) = true := by simp; omega
  have d2 : decide (n < 4) = false := by simp; omega
  have d3 : decide (n ≤ 3) = false := by simp; omega
  go_enter Tryd.func43, Tryd.ntmps43
  go_wp2_with (fail)
  first | go_ret | (go_quiet (fail); go_wp2; go_ret)
  exact ⟨rfl, by repeat (first | exact Below.refl _ _ | refine Below.alloc ?_ (by simp) _ | refine Below.drew ?_ | refine bel_drewN ?_ _)⟩
set_option maxRecDepth 100000 in
set_option maxHeartbeats 400000 in
theorem devOk_s_13_no (n p : Int) (h0 : 0 ≤ n) (h1 : n < 4) (h2 : ¬ p = 0) (w : World) : Calls Tryd.prog 43 #[.agg #[.int .i64 13, .int .i64 n, .int .i64 p]] w fun e w' => e = .returned (.bool false) ∧ Below w.heap.size w w' := by
  have d1 : decide (0 ≤ n) = true := by simp; omega
  have d2 : decide (n < 4) = true := by simp; omega
  have d3 : decide (n ≤ 3) = true := by simp; omega
  have hp0 : (p == 0) = false := by simpa using h2
  go_enter Tryd.func43, Tryd.ntmps43
  go_wp2_with (fail)
  first | go_ret | (go_quiet (fail); go_wp2; go_ret)
  exact ⟨rfl, by repeat (first | exact Below.refl _ _ | refine Below.alloc ?_ (by simp) _ | refine Below.drew ?_ | refine bel_drewN ?_ _)⟩
set_option maxRecDepth 100000 in
set_option maxHeartbeats 400000 in
theorem devOk_s_13_ok (n p : Int) (h0 : 0 ≤ n) (h1 : n < 4) (h2 : p = 0) (w : World) : Calls Tryd.prog 43 #[.agg #[.int .i64 13, .int .i64 n, .int .i64 p]] w fun e w' => e = .returned (.bool true) ∧ Below w.heap.size w w' := by
  have d1 : decide (0 ≤ n) = true := by simp; omega
  have d2 : decide (n < 4) = true := by simp; omega
  have d3 : decide (n ≤ 3) = true := by simp; omega
  have hp0 : (p == 0) = true := by simpa using h2
  go_enter Tryd.func43, Tryd.ntmps43
  go_wp2_with (fail)
  first | go_ret | (go_quiet (fail); go_wp2; go_ret)
  exact ⟨rfl, by repeat (first | exact Below.refl _ _ | refine Below.alloc ?_ (by simp) _ | refine Below.drew ?_ | refine bel_drewN ?_ _)⟩
set_option maxRecDepth 100000 in
set_option maxHeartbeats 400000 in
theorem devOk_s_12_a (n p : Int) (h0 : n < -999999999) (w : World) : Calls Tryd.prog 43 #[.agg #[.int .i64 12, .int .i64 n, .int .i64 p]] w fun e w' => e = .returned (.bool false) ∧ Below w.heap.size w w' := by
  have q14f9536 : decide (-999999999 ≤ n) = false := by simp; omega
  go_enter Tryd.func43, Tryd.ntmps43
  go_wp2_with (fail)
  first | go_ret | (go_quiet (fail); go_wp2; go_ret)
  exact ⟨rfl, by repeat (first | exact Below.refl _ _ | refine Below.alloc ?_ (by simp) _ | refine Below.drew ?_ | refine bel_drewN ?_ _)⟩
set_option maxRecDepth 100000 in
set_option maxHeartbeats 400000 in
theorem devOk_s_12_b (n p : Int) (h0 : 999999999 < n) (w : World) : Calls Tryd.prog 43 #[.agg #[.int .i64 12, .int .i64 n, .int .i64 p]] w fun e w' => e = .returned (.bool false) ∧ Below w.heap.size w w' := by
  have q14t9536 : decide (-999999999 ≤ n) = true := by simp; omega
  have q13f9491 : decide (n ≤ 999999999) = false := by simp; omega
  go_enter Tryd.func43, Tryd.ntmps43
  go_wp2_with (fail)
  first | go_ret | (go_quiet (fail); go_wp2; go_ret)
  exact ⟨rfl, by repeat (first | exact Below.refl _ _ | refine Below.alloc ?_ (by simp) _ | refine Below.drew ?_ | refine bel_drewN ?_ _)⟩
set_option maxRecDepth 100000 in
set_option maxHeartbeats 400000 in
theorem devOk_s_12_c (n p : Int) (h0 : -999999999 ≤ n) (h1 : n ≤ 999999999) (h2 : p < 1) (w : World) : Calls Tryd.prog 43 #[.agg #[.int .i64 12, .int .i64 n, .int .i64 p]] w fun e w' => e = .returned (.bool false) ∧ Below w.heap.size w w' := by
  have q14t9536 : decide (-999999999 ≤ n) = true := by simp; omega
  have q13t9491 : decide (n ≤ 999999999) = true := by simp; omega
  have q5f9029 : decide (1 ≤ p) = false := by simp; omega
  go_enter Tryd.func43, Tryd.ntmps43
  go_wp2_with (fail)
  first | go_ret | (go_quiet (fail); go_wp2; go_ret)
  exact ⟨rfl, by repeat (first | exact Below.refl _ _ | refine Below.alloc ?_ (by simp) _ | refine Below.drew ?_ | refine bel_drewN ?_ _)⟩
set_option maxRecDepth 100000 in
set_option maxHeartbeats 400000 in
theorem devOk_s_12_d (n p : Int) (h0 : -999999999 ≤ n) (h1 : n ≤ 999999999) (h2 : 6 < p) (w : World) : Calls Tryd.prog 43 #[.agg #[.int .i64 12, .int .i64 n, .int .i64 p]] w fun e w' => e = .returned (.bool false) ∧ Below w.heap.size w w' := by
  have q14t9536 : decide (-999999999 ≤ n) = true := by simp; omega
  have q13t9491 : decide (n ≤ 999999999) = true := by simp; omega
  have q5t9029 : decide (1 ≤ p) = true := by simp; omega
  have q5f9034 : decide (p ≤ 6) = false := by simp; omega
  go_enter Tryd.func43, Tryd.ntmps43
  go_wp2_with (fail)
  first | go_ret | (go_quiet (fail); go_wp2; go_ret)
  exact ⟨rfl, by repeat (first | exact Below.refl _ _ | refine Below.alloc ?_ (by simp) _ | refine Below.drew ?_ | refine bel_drewN ?_ _)⟩
set_option maxRecDepth 100000 in
set_option maxHeartbeats 400000 in
theorem devOk_s_12_e (n p : Int) (h0 : -999999999 ≤ n) (h1 : n ≤ 999999999) (h2 : p = 1) (w : World) : Calls Tryd.prog 43 #[.agg #[.int .i64 12, .int .i64 n, .int .i64 p]] w fun e w' => e = .returned (.bool true) ∧ Below w.heap.size w w' := by
  have q14t9536 : decide (-999999999 ≤ n) = true := by simp; omega
  have q13t9491 : decide (n ≤ 999999999) = true := by simp; omega
  have q5t9029 : decide (1 ≤ p) = true := by simp; omega
  have q5t9034 : decide (p ≤ 6) = true := by simp; omega
  have e1 : (p == 1) = true := by simpa using h2
  go_enter Tryd.func43, Tryd.ntmps43
  go_wp2_with (fail)
  first | go_ret | (go_quiet (fail); go_wp2; go_ret)
  exact ⟨rfl, by repeat (first | exact Below.refl _ _ | refine Below.alloc ?_ (by simp) _ | refine Below.drew ?_ | refine bel_drewN ?_ _)⟩
set_option maxRecDepth 100000 in
set_option maxHeartbeats 400000 in
theorem devOk_s_12_f (n p : Int) (h0 : -999999999 ≤ n) (h1 : n ≤ 999999999) (h2 : 1 < p) (h3 : p ≤ 6) (h4 : n.tmod 10 ≠ 0) (w : World) : Calls Tryd.prog 43 #[.agg #[.int .i64 12, .int .i64 n, .int .i64 p]] w fun e w' => e = .returned (.bool true) ∧ Below w.heap.size w w' := by
  have q14t9536 : decide (-999999999 ≤ n) = true := by simp; omega
  have q13t9491 : decide (n ≤ 999999999) = true := by simp; omega
  have q5t9029 : decide (1 ≤ p) = true := by simp; omega
  have q5t9034 : decide (p ≤ 6) = true := by simp; omega
  have e1 : (p == 1) = false := by simp; omega
  have e2 : (n.tmod 10 != 0) = true := by simpa using h4
  go_enter Tryd.func43, Tryd.ntmps43
  go_wp2_with (fail)
  first | go_ret | (go_quiet (fail); go_wp2; go_ret)
  exact ⟨rfl, by repeat (first | exact Below.refl _ _ | refine Below.alloc ?_ (by simp) _ | refine Below.drew ?_ | refine bel_drewN ?_ _)⟩
set_option maxRecDepth 100000 in
set_option maxHeartbeats 400000 in
theorem devOk_s_12_g (n p : Int) (h0 : -999999999 ≤ n) (h1 : n ≤ 999999999) (h2 : 1 < p) (h3 : p ≤ 6) (h4 : n.tmod 10 = 0) (w : World) : Calls Tryd.prog 43 #[.agg #[.int .i64 12, .int .i64 n, .int .i64 p]] w fun e w' => e = .returned (.bool false) ∧ Below w.heap.size w w' := by
  have q14t9536 : decide (-999999999 ≤ n) = true := by simp; omega
  have q13t9491 : decide (n ≤ 999999999) = true := by simp; omega
  have q5t9029 : decide (1 ≤ p) = true := by simp; omega
  have q5t9034 : decide (p ≤ 6) = true := by simp; omega
  have e1 : (p == 1) = false := by simp; omega
  have e2 : (n.tmod 10 != 0) = false := by simpa using h4
  clear h4
  go_enter Tryd.func43, Tryd.ntmps43
  go_wp2_with (fail)
  first | go_ret | (go_quiet (fail); go_wp2; go_ret)
  exact ⟨rfl, by repeat (first | exact Below.refl _ _ | refine Below.alloc ?_ (by simp) _ | refine Below.drew ?_ | refine bel_drewN ?_ _)⟩
theorem devOk_s_any (k n p : Int) (w : World) : Calls Tryd.prog 43 #[.agg #[.int .i64 k, .int .i64 n, .int .i64 p]] w fun e w' => e = .returned (.bool (DevP.ok k n p)) ∧ Below w.heap.size w w' := by
  by_cases hl : k < 1
  · rw [DevP.ok_low hl]
    by_cases hn : n < 0; exact devOk_s_lown k n p hl hn w; exact devOk_s_lowp k n p hl (by omega) w
  by_cases hh : 13 < k
  · rw [DevP.ok_high hh]
    by_cases hn : n < 0; exact devOk_s_highn k n p hh hn w; exact devOk_s_highp k n p hh (by omega) w
  have hk : k = 1 ∨ k = 2 ∨ k = 3 ∨ k = 4 ∨ k = 5 ∨ k = 6 ∨ k = 7 ∨ k = 8 ∨ k = 9 ∨ k = 10 ∨ k = 11 ∨ k = 12 ∨ k = 13 := by omega
  rcases hk with rfl | rfl | rfl | rfl | rfl | rfl | rfl | rfl | rfl | rfl | rfl | rfl | rfl
  · rw [DevP.ok_dev (by omega), show DevP.size 1 = 32 from rfl]
    by_cases a : n < 0
    · rw [decide_eq_false (by omega)]; exact devOk_s_1_lo n p a w
    by_cases b : 32 ≤ n
    · rw [decide_eq_false (by omega)]; exact devOk_s_1_hi n p b w
    by_cases c : p = 0
    · rw [decide_eq_true (by omega)]; exact devOk_s_1_ok n p (by omega) (by omega) c w
    · rw [decide_eq_false (by omega)]; exact devOk_s_1_no n p (by omega) (by omega) c w
  · rw [DevP.ok_dev (by omega), show DevP.size 2 = 32 from rfl]
    by_cases a : n < 0
    · rw [decide_eq_false (by omega)]; exact devOk_s_2_lo n p a w
    by_cases b : 32 ≤ n
    · rw [decide_eq_false (by omega)]; exact devOk_s_2_hi n p b w
    by_cases c : p = 0
    · rw [decide_eq_true (by omega)]; exact devOk_s_2_ok n p (by omega) (by omega) c w
    · rw [decide_eq_false (by omega)]; exact devOk_s_2_no n p (by omega) (by omega) c w
  · rw [DevP.ok_dev (by omega), show DevP.size 3 = 64 from rfl]
    by_cases a : n < 0
    · rw [decide_eq_false (by omega)]; exact devOk_s_3_lo n p a w
    by_cases b : 64 ≤ n
    · rw [decide_eq_false (by omega)]; exact devOk_s_3_hi n p b w
    by_cases c : p = 0
    · rw [decide_eq_true (by omega)]; exact devOk_s_3_ok n p (by omega) (by omega) c w
    · rw [decide_eq_false (by omega)]; exact devOk_s_3_no n p (by omega) (by omega) c w
  · rw [DevP.ok_dev (by omega), show DevP.size 4 = 16 from rfl]
    by_cases a : n < 0
    · rw [decide_eq_false (by omega)]; exact devOk_s_4_lo n p a w
    by_cases b : 16 ≤ n
    · rw [decide_eq_false (by omega)]; exact devOk_s_4_hi n p b w
    by_cases c : p = 0
    · rw [decide_eq_true (by omega)]; exact devOk_s_4_ok n p (by omega) (by omega) c w
    · rw [decide_eq_false (by omega)]; exact devOk_s_4_no n p (by omega) (by omega) c w
  · rw [DevP.ok_dev (by omega), show DevP.size 5 = 32 from rfl]
    by_cases a : n < 0
    · rw [decide_eq_false (by omega)]; exact devOk_s_5_lo n p a w
    by_cases b : 32 ≤ n
    · rw [decide_eq_false (by omega)]; exact devOk_s_5_hi n p b w
    by_cases c : p = 0
    · rw [decide_eq_true (by omega)]; exact devOk_s_5_ok n p (by omega) (by omega) c w
    · rw [decide_eq_false (by omega)]; exact devOk_s_5_no n p (by omega) (by omega) c w
  · rw [DevP.ok_dev (by omega), show DevP.size 6 = 5 from rfl]
    by_cases a : n < 0
    · rw [decide_eq_false (by omega)]; exact devOk_s_6_lo n p a w
    by_cases b : 5 ≤ n
    · rw [decide_eq_false (by omega)]; exact devOk_s_6_hi n p b w
    by_cases c : p = 0
    · rw [decide_eq_true (by omega)]; exact devOk_s_6_ok n p (by omega) (by omega) c w
    · rw [decide_eq_false (by omega)]; exact devOk_s_6_no n p (by omega) (by omega) c w
  · rw [DevP.ok_dev (by omega), show DevP.size 7 = 16 from rfl]
    by_cases a : n < 0
    · rw [decide_eq_false (by omega)]; exact devOk_s_7_lo n p a w
    by_cases b : 16 ≤ n
    · rw [decide_eq_false (by omega)]; exact devOk_s_7_hi n p b w
    by_cases c : p = 0
    · rw [decide_eq_true (by omega)]; exact devOk_s_7_ok n p (by omega) (by omega) c w
    · rw [decide_eq_false (by omega)]; exact devOk_s_7_no n p (by omega) (by omega) c w
  · rw [DevP.ok_dev (by omega), show DevP.size 8 = 16 from rfl]
    by_cases a : n < 0
    · rw [decide_eq_false (by omega)]; exact devOk_s_8_lo n p a w
    by_cases b : 16 ≤ n
    · rw [decide_eq_false (by omega)]; exact devOk_s_8_hi n p b w
    by_cases c : p = 0
    · rw [decide_eq_true (by omega)]; exact devOk_s_8_ok n p (by omega) (by omega) c w
    · rw [decide_eq_false (by omega)]; exact devOk_s_8_no n p (by omega) (by omega) c w
  · rw [DevP.ok_dev (by omega), show DevP.size 9 = 32 from rfl]
    by_cases a : n < 0
    · rw [decide_eq_false (by omega)]; exact devOk_s_9_lo n p a w
    by_cases b : 32 ≤ n
    · rw [decide_eq_false (by omega)]; exact devOk_s_9_hi n p b w
    by_cases c : p = 0
    · rw [decide_eq_true (by omega)]; exact devOk_s_9_ok n p (by omega) (by omega) c w
    · rw [decide_eq_false (by omega)]; exact devOk_s_9_no n p (by omega) (by omega) c w
  · rw [DevP.ok_dev (by omega), show DevP.size 10 = 16 from rfl]
    by_cases a : n < 0
    · rw [decide_eq_false (by omega)]; exact devOk_s_10_lo n p a w
    by_cases b : 16 ≤ n
    · rw [decide_eq_false (by omega)]; exact devOk_s_10_hi n p b w
    by_cases c : p = 0
    · rw [decide_eq_true (by omega)]; exact devOk_s_10_ok n p (by omega) (by omega) c w
    · rw [decide_eq_false (by omega)]; exact devOk_s_10_no n p (by omega) (by omega) c w
  · rw [DevP.ok_int]
    by_cases a : n < (-32768)
    · rw [decide_eq_false (by omega)]; exact devOk_s_11_lo n p a w
    by_cases b : 32768 ≤ n
    · rw [decide_eq_false (by omega)]; exact devOk_s_11_hi n p b w
    by_cases c : p = 0
    · rw [decide_eq_true (by omega)]; exact devOk_s_11_ok n p (by omega) (by omega) c w
    · rw [decide_eq_false (by omega)]; exact devOk_s_11_no n p (by omega) (by omega) c w
  · rw [DevP.ok_dec]
    by_cases a : n < -999999999
    · rw [decide_eq_false (by omega)]; exact devOk_s_12_a n p a w
    by_cases b : 999999999 < n
    · rw [decide_eq_false (by omega)]; exact devOk_s_12_b n p b w
    by_cases c : p < 1
    · rw [decide_eq_false (by omega)]; exact devOk_s_12_c n p (by omega) (by omega) c w
    by_cases d : 6 < p
    · rw [decide_eq_false (by omega)]; exact devOk_s_12_d n p (by omega) (by omega) d w
    by_cases e : p = 1
    · rw [decide_eq_true ⟨by omega, by omega, by omega, by omega, .inl e⟩]; exact devOk_s_12_e n p (by omega) (by omega) e w
    by_cases g : n.tmod 10 = 0
    · rw [decide_eq_false (fun h => h.2.2.2.2.elim e fun q => q g)]; exact devOk_s_12_g n p (by omega) (by omega) (by omega) (by omega) g w
    · rw [decide_eq_true ⟨by omega, by omega, by omega, by omega, .inr g⟩]; exact devOk_s_12_f n p (by omega) (by omega) (by omega) (by omega) g w
  · rw [DevP.ok_word]
    by_cases a : n < 0
    · rw [decide_eq_false (by omega)]; exact devOk_s_13_lo n p a w
    by_cases b : 4 ≤ n
    · rw [decide_eq_false (by omega)]; exact devOk_s_13_hi n p b w
    by_cases c : p = 0
    · rw [decide_eq_true (by omega)]; exact devOk_s_13_ok n p (by omega) (by omega) c w
    · rw [decide_eq_false (by omega)]; exact devOk_s_13_no n p (by omega) (by omega) c w
set_option maxRecDepth 100000 in
set_option maxHeartbeats 400000 in
theorem devOk_i_low (k n p : Int) (h0 : k < 1) (w : World) : Calls Tryd.prog 18 #[.agg #[.int .i64 k, .int .i64 n, .int .i64 p]] w fun e w' => e = .returned (.bool false) ∧ Below w.heap.size w w' := by
  have d : decide ((1 : Int) ≤ k) = false := by simp; omega
  go_enter Tryd.func18, Tryd.ntmps18
  go_wp2_with (first | (go_at_call 49; refine (within_same _ _ _ _).mono ?_; rintro e w' ⟨rfl, rfl⟩) | (go_at_call 48; go_in))
  go_ret
  exact ⟨rfl, by repeat (first | exact Below.refl _ _ | refine Below.alloc ?_ (by simp) _ | refine Below.drew ?_ | refine bel_drewN ?_ _)⟩
set_option maxRecDepth 100000 in
set_option maxHeartbeats 400000 in
theorem devOk_i_high (k n p : Int) (h0 : 13 < k) (w : World) : Calls Tryd.prog 18 #[.agg #[.int .i64 k, .int .i64 n, .int .i64 p]] w fun e w' => e = .returned (.bool false) ∧ Below w.heap.size w w' := by
  have d : decide ((1 : Int) ≤ k) = true := by simp; omega
  have d2 : decide (k ≤ (10 : Int)) = false := by simp; omega
  go_enter Tryd.func18, Tryd.ntmps18
  go_wp2_with (first | (go_at_call 49; refine (within_same _ _ _ _).mono ?_; rintro e w' ⟨rfl, rfl⟩) | (go_at_call 48; go_in))
  go_ret
  exact ⟨rfl, by repeat (first | exact Below.refl _ _ | refine Below.alloc ?_ (by simp) _ | refine Below.drew ?_ | refine bel_drewN ?_ _)⟩
set_option maxRecDepth 100000 in
set_option maxHeartbeats 400000 in
theorem devOk_i_1_lo (n p : Int) (h0 : n < 0) (w : World) : Calls Tryd.prog 18 #[.agg #[.int .i64 1, .int .i64 n, .int .i64 p]] w fun e w' => e = .returned (.bool false) ∧ Below w.heap.size w w' := by
  have ix : IntKind.i64.wrap 31 = 31 := by decide
  have d1 : decide (0 ≤ n) = false := by simp; omega
  go_enter Tryd.func18, Tryd.ntmps18
  go_wp2_with (first | (go_at_call 49; refine (within_same _ _ _ _).mono ?_; rintro e w' ⟨rfl, rfl⟩) | (go_at_call 48; go_in))
  first | go_ret | (go_quiet ((first | (go_at_call 50; exact Calls.quiet_of_same (devSize_i_1 _)) | (go_at_call 49; exact Calls.quiet_of_same (within_same _ _ _ _)))); go_wp2; go_ret)
  exact ⟨rfl, by repeat (first | exact Below.refl _ _ | refine Below.alloc ?_ (by simp) _ | refine Below.drew ?_ | refine bel_drewN ?_ _)⟩
set_option maxRecDepth 100000 in
set_option maxHeartbeats 400000 in
theorem devOk_i_1_hi (n p : Int) (h0 : 32 ≤ n) (w : World) : Calls Tryd.prog 18 #[.agg #[.int .i64 1, .int .i64 n, .int .i64 p]] w fun e w' => e = .returned (.bool false) ∧ Below w.heap.size w w' := by
  have ix : IntKind.i64.wrap 31 = 31 := by decide
  have d1 : decide (0 ≤ n) = true := by simp; omega
  have d2 : decide (n < 32) = false := by simp; omega
  have d3 : decide (n ≤ 31) = false := by simp; omega
  go_enter Tryd.func18, Tryd.ntmps18
  go_wp2_with (first | (go_at_call 49; refine (within_same _ _ _ _).mono ?_; rintro e w' ⟨rfl, rfl⟩) | (go_at_call 48; go_in))
  first | go_ret | (go_quiet ((first | (go_at_call 50; exact Calls.quiet_of_same (devSize_i_1 _)) | (go_at_call 49; exact Calls.quiet_of_same (within_same _ _ _ _)))); go_wp2; go_ret)
  exact ⟨rfl, by repeat (first | exact Below.refl _ _ | refine Below.alloc ?_ (by simp) _ | refine Below.drew ?_ | refine bel_drewN ?_ _)⟩
set_option maxRecDepth 100000 in
set_option maxHeartbeats 400000 in
theorem devOk_i_1_no (n p : Int) (h0 : 0 ≤ n) (h1 : n < 32) (h2 : ¬ p = 0) (w : World) : Calls Tryd.prog 18 #[.agg #[.int .i64 1, .int .i64 n, .int .i64 p]] w fun e w' => e = .returned (.bool false) ∧ Below w.heap.size w w' := by
  have ix : IntKind.i64.wrap 31 = 31 := by decide
  have d1 : decide (0 ≤ n) = true := by simp; omega
  have d2 : decide (n < 32) = true := by simp; omega
  have d3 : decide (n ≤ 31) = true := by simp; omega
  have hp0 : (p == 0) = false := by simpa using h2
  go_enter Tryd.func18, Tryd.ntmps18
  go_wp2_with (first | (go_at_call 49; refine (within_same _ _ _ _).mono ?_; rintro e w' ⟨rfl, rfl⟩) | (go_at_call 48; go_in))
  first | go_ret | (go_quiet ((first | (go_at_call 50; exact Calls.quiet_of_same (devSize_i_1 _)) | (go_at_call 49; exact Calls.quiet_of_same (within_same _ _ _ _)))); go_wp2; go_ret)
  exact ⟨rfl, by repeat (first | exact Below.refl _ _ | refine Below.alloc ?_ (by simp) _ | refine Below.drew ?_ | refine bel_drewN ?_ _)⟩
set_option maxRecDepth 100000 in
set_option maxHeartbeats 400000 in
theorem devOk_i_1_ok (n p : Int) (h0 : 0 ≤ n) (h1 : n < 32) (h2 : p = 0) (w : World) : Calls Tryd.prog 18 #[.agg #[.int .i64 1, .int .i64 n, .int .i64 p]] w fun e w' => e = .returned (.bool true) ∧ Below w.heap.size w w' := by
  have ix : IntKind.i64.wrap 31 = 31 := by decide
  have d1 : decide (0 ≤ n) = true := by simp; omega
  have d2 : decide (n < 32) = true := by simp; omega
  have d3 : decide (n ≤ 31) = true := by simp; omega
  have hp0 : (p == 0) = true := by simpa using h2
  go_enter Tryd.func18, Tryd.ntmps18
  go_wp2_with (first | (go_at_call 49; refine (within_same _ _ _ _).mono ?_; rintro e w' ⟨rfl, rfl⟩) | (go_at_call 48; go_in))
  first | go_ret | (go_quiet ((first | (go_at_call 50; exact Calls.quiet_of_same (devSize_i_1 _)) | (go_at_call 49; exact Calls.quiet_of_same (within_same _ _ _ _)))); go_wp2; go_ret)
  exact ⟨rfl, by repeat (first | exact Below.refl _ _ | refine Below.alloc ?_ (by simp) _ | refine Below.drew ?_ | refine bel_drewN ?_ _)⟩
set_option maxRecDepth 100000 in
set_option maxHeartbeats 400000 in
theorem devOk_i_2_lo (n p : Int) (h0 : n < 0) (w : World) : Calls Tryd.prog 18 #[.agg #[.int .i64 2, .int .i64 n, .int .i64 p]] w fun e w' => e = .returned (.bool false) ∧ Below w.heap.size w w' := by
  have ix : IntKind.i64.wrap 31 = 31 := by decide
  have d1 : decide (0 ≤ n) = false := by simp; omega
  go_enter Tryd.func18, Tryd.ntmps18
  go_wp2_with (first | (go_at_call 49; refine (within_same _ _ _ _).mono ?_; rintro e w' ⟨rfl, rfl⟩) | (go_at_call 48; go_in))
  first | go_ret | (go_quiet ((first | (go_at_call 50; exact Calls.quiet_of_same (devSize_i_2 _)) | (go_at_call 49; exact Calls.quiet_of_same (within_same _ _ _ _)))); go_wp2; go_ret)
  exact ⟨rfl, by repeat (first | exact Below.refl _ _ | refine Below.alloc ?_ (by simp) _ | refine Below.drew ?_ | refine bel_drewN ?_ _)⟩
set_option maxRecDepth 100000 in
set_option maxHeartbeats 400000 in
theorem devOk_i_2_hi (n p : Int) (h0 : 32 ≤ n) (w : World) : Calls Tryd.prog 18 #[.agg #[.int .i64 2, .int .i64 n, .int .i64 p]] w fun e w' => e = .returned (.bool false) ∧ Below w.heap.size w w' := by
  have ix : IntKind.i64.wrap 31 = 31 := by decide
  have d1 : decide (0 ≤ n) = true := by simp; omega
  have d2 : decide (n < 32) = false := by simp; omega
  have d3 : decide (n ≤ 31) = false := by simp; omega
  go_enter Tryd.func18, Tryd.ntmps18
  go_wp2_with (first | (go_at_call 49; refine (within_same _ _ _ _).mono ?_; rintro e w' ⟨rfl, rfl⟩) | (go_at_call 48; go_in))
  first | go_ret | (go_quiet ((first | (go_at_call 50; exact Calls.quiet_of_same (devSize_i_2 _)) | (go_at_call 49; exact Calls.quiet_of_same (within_same _ _ _ _)))); go_wp2; go_ret)
  exact ⟨rfl, by repeat (first | exact Below.refl _ _ | refine Below.alloc ?_ (by simp) _ | refine Below.drew ?_ | refine bel_drewN ?_ _)⟩
set_option maxRecDepth 100000 in
set_option maxHeartbeats 400000 in
theorem devOk_i_2_no (n p : Int) (h0 : 0 ≤ n) (h1 : n < 32) (h2 : ¬ p = 0) (w : World) : Calls Tryd.prog 18 #[.agg #[.int .i64 2, .int .i64 n, .int .i64 p]] w fun e w' => e = .returned (.bool false) ∧ Below w.heap.size w w' := by
  have ix : IntKind.i64.wrap 31 = 31 := by decide
  have d1 : decide (0 ≤ n) = true := by simp; omega
  have d2 : decide (n < 32) = true := by simp; omega
  have d3 : decide (n ≤ 31) = true := by simp; omega
  have hp0 : (p == 0) = false := by simpa using h2
  go_enter Tryd.func18, Tryd.ntmps18
  go_wp2_with (first | (go_at_call 49; refine (within_same _ _ _ _).mono ?_; rintro e w' ⟨rfl, rfl⟩) | (go_at_call 48; go_in))
  first | go_ret | (go_quiet ((first | (go_at_call 50; exact Calls.quiet_of_same (devSize_i_2 _)) | (go_at_call 49; exact Calls.quiet_of_same (within_same _ _ _ _)))); go_wp2; go_ret)
  exact ⟨rfl, by repeat (first | exact Below.refl _ _ | refine Below.alloc ?_ (by simp) _ | refine Below.drew ?_ | refine bel_drewN ?_ _)⟩
set_option maxRecDepth 100000 in
set_option maxHeartbeats 400000 in
theorem devOk_i_2_ok (n p : Int) (h0 : 0 ≤ n) (h1 : n < 32) (h2 : p = 0) (w : World) : Calls Tryd.prog 18 #[.agg #[.int .i64 2, .int .i64 n, .int .i64 p]] w fun e w' => e = .returned (.bool true) ∧ Below w.heap.size w w' := by
  have ix : IntKind.i64.wrap 31 = 31 := by decide
  have d1 : decide (0 ≤ n) = true := by simp; omega
  have d2 : decide (n < 32) = true := by simp; omega
  have d3 : decide (n ≤ 31) = true := by simp; omega
  have hp0 : (p == 0) = true := by simpa using h2
  go_enter Tryd.func18, Tryd.ntmps18
  go_wp2_with (first | (go_at_call 49; refine (within_same _ _ _ _).mono ?_; rintro e w' ⟨rfl, rfl⟩) | (go_at_call 48; go_in))
  first | go_ret | (go_quiet ((first | (go_at_call 50; exact Calls.quiet_of_same (devSize_i_2 _)) | (go_at_call 49; exact Calls.quiet_of_same (within_same _ _ _ _)))); go_wp2; go_ret)
  exact ⟨rfl, by repeat (first | exact Below.refl _ _ | refine Below.alloc ?_ (by simp) _ | refine Below.drew ?_ | refine bel_drewN ?_ _)⟩
set_option maxRecDepth 100000 in
set_option maxHeartbeats 400000 in
theorem devOk_i_3_lo (n p : Int) (h0 : n < 0) (w : World) : Calls Tryd.prog 18 #[.agg #[.int .i64 3, .int .i64 n, .int .i64 p]] w fun e w' => e = .returned (.bool false) ∧ Below w.heap.size w w' := by
  have ix : IntKind.i64.wrap 63 = 63 := by decide
  have d1 : decide (0 ≤ n) = false := by simp; omega
  go_enter Tryd.func18, Tryd.ntmps18
  go_wp2_with (first | (go_at_call 49; refine (within_same _ _ _ _).mono ?_; rintro e w' ⟨rfl, rfl⟩) | (go_at_call 48; go_in))
  first | go_ret | (go_quiet ((first | (go_at_call 50; exact Calls.quiet_of_same (devSize_i_3 _)) | (go_at_call 49; exact Calls.quiet_of_same (within_same _ _ _ _)))); go_wp2; go_ret)
  exact ⟨rfl, by repeat (first | exact Below.refl _ _ | refine Below.alloc ?_ (by simp) _ | refine Below.drew ?_ | refine bel_drewN ?_ _)⟩
set_option maxRecDepth 100000 in
set_option maxHeartbeats 400000 in
theorem devOk_i_3_hi (n p : Int) (h0 : 64 ≤ n) (w : World) : Calls Tryd.prog 18 #[.agg #[.int .i64 3, .int .i64 n, .int .i64 p]] w fun e w' => e = .returned (.bool false) ∧ Below w.heap.size w w' := by
  have ix : IntKind.i64.wrap 63 = 63 := by decide
  have d1 : decide (0 ≤ n) = true := by simp; omega
  have d2 : decide (n < 64) = false := by simp; omega
  have d3 : decide (n ≤ 63) = false := by simp; omega
  go_enter Tryd.func18, Tryd.ntmps18
  go_wp2_with (first | (go_at_call 49; refine (within_same _ _ _ _).mono ?_; rintro e w' ⟨rfl, rfl⟩) | (go_at_call 48; go_in))
  first | go_ret | (go_quiet ((first | (go_at_call 50; exact Calls.quiet_of_same (devSize_i_3 _)) | (go_at_call 49; exact Calls.quiet_of_same (within_same _ _ _ _)))); go_wp2; go_ret)
  exact ⟨rfl, by repeat (first | exact Below.refl _ _ | refine Below.alloc ?_ (by simp) _ | refine Below.drew ?_ | refine bel_drewN ?_ _)⟩
set_option maxRecDepth 100000 in
set_option maxHeartbeats 400000 in
theorem devOk_i_3_no (n p : Int) (h0 : 0 ≤ n) (h1 : n < 64) (h2 : ¬ p = 0) (w : World) : Calls Tryd.prog 18 #[.agg #[.int .i64 3, .int .i64 n, .int .i64 p]] w fun e w' => e = .returned (.bool false) ∧ Below w.heap.size w w' := by
  have ix : IntKind.i64.wrap 63 = 63 := by decide
  have d1 : decide (0 ≤ n) = true := by simp; omega
  have d2 : decide (n < 64) = true := by simp; omega
  have d3 : decide (n ≤ 63) = true := by simp; omega
  have hp0 : (p == 0) = false := by simpa using h2
  go_enter Tryd.func18, Tryd.ntmps18
  go_wp2_with (first | (go_at_call 49; refine (within_same _ _ _ _).mono ?_; rintro e w' ⟨rfl, rfl⟩) | (go_at_call 48; go_in))
  first | go_ret | (go_quiet ((first | (go_at_call 50; exact Calls.quiet_of_same (devSize_i_3 _)) | (go_at_call 49; exact Calls.quiet_of_same (within_same _ _ _ _)))); go_wp2; go_ret)
  exact ⟨rfl, by repeat (first | exact Below.refl _ _ | refine Below.alloc ?_ (by simp) _ | refine Below.drew ?_ | refine bel_drewN ?_ _)⟩
set_option maxRecDepth 100000 in
set_option maxHeartbeats 400000 in
theorem devOk_i_3_ok (n p : Int) (h0 : 0 ≤ n) (h1 : n < 64) (h2 : p = 0) (w : World) : Calls Tryd.prog 18 #[.agg #[.int .i64 3, .int .i64 n, .int .i64 p]] w fun e w' => e = .returned (.bool true) ∧ Below w.heap.size w w' := by
  have ix : IntKind.i64.wrap 63 = 63 := by decide
  have d1 : decide (0 ≤ n) = true := by simp; omega
  have d2 : decide (n < 64) = true := by simp; omega
  have d3 : decide (n ≤ 63) = true := by simp; omega
  have hp0 : (p == 0) = true := by simpa using h2
  go_enter Tryd.func18, Tryd.ntmps18
  go_wp2_with (first | (go_at_call 49; refine (within_same _ _ _ _).mono ?_; rintro e w' ⟨rfl, rfl⟩) | (go_at_call 48; go_in))
  first | go_ret | (go_quiet ((first | (go_at_call 50; exact Calls.quiet_of_same (devSize_i_3 _)) | (go_at_call 49; exact Calls.quiet_of_same (within_same _ _ _ _)))); go_wp2; go_ret)
  exact ⟨rfl, by repeat (first | exact Below.refl _ _ | refine Below.alloc ?_ (by simp) _ | refine Below.drew ?_ | refine bel_drewN ?_ _)⟩
set_option maxRecDepth 100000 in
set_option maxHeartbeats 400000 in
theorem devOk_i_4_lo (n p : Int) (h0 : n < 0) (w : World) : Calls Tryd.prog 18 #[.agg #[.int .i64 4, .int .i64 n, .int .i64 p]] w fun e w' => e = .returned (.bool false) ∧ Below w.heap.size w w' := by
  have ix : IntKind.i64.wrap 15 = 15 := by decide
  have d1 : decide (0 ≤ n) = false := by simp; omega
  go_enter Tryd.func18, Tryd.ntmps18
  go_wp2_with (first | (go_at_call 49; refine (within_same _ _ _ _).mono ?_; rintro e w' ⟨rfl, rfl⟩) | (go_at_call 48; go_in))
  first | go_ret | (go_quiet ((first | (go_at_call 50; exact Calls.quiet_of_same (devSize_i_4 _)) | (go_at_call 49; exact Calls.quiet_of_same (within_same _ _ _ _)))); go_wp2; go_ret)
  exact ⟨rfl, by repeat (first | exact Below.refl _ _ | refine Below.alloc ?_ (by simp) _ | refine Below.drew ?_ | refine bel_drewN ?_ _)⟩
set_option maxRecDepth 100000 in
set_option maxHeartbeats 400000 in
theorem devOk_i_4_hi (n p : Int) (h0 : 16 ≤ n) (w : World) : Calls Tryd.prog 18 #[.agg #[.int .i64 4, .int .i64 n, .int .i64 p]] w fun e w' => e = .returned (.bool false) ∧ Below w.heap.size w w' := by
  have ix : IntKind.i64.wrap 15 = 15 := by decide
  have d1 : decide (0 ≤ n) = true := by simp; omega
  have d2 : decide (n < 16) = false := by simp; omega
  have d3 : decide (n ≤ 15) = false := by simp; omega
  go_enter Tryd.func18, Tryd.ntmps18
  go_wp2_with (first | (go_at_call 49; refine (within_same _ _ _ _).mono ?_; rintro e w' ⟨rfl, rfl⟩) | (go_at_call 48; go_in))
  first | go_ret | (go_quiet ((first | (go_at_call 50; exact Calls.quiet_of_same (devSize_i_4 _)) | (go_at_call 49; exact Calls.quiet_of_same (within_same _ _ _ _)))); go_wp2; go_ret)
  exact ⟨rfl, by repeat (first | exact Below.refl _ _ | refine Below.alloc ?_ (by simp) _ | refine Below.drew ?_ | refine bel_drewN ?_ _)⟩
set_option maxRecDepth 100000 in
set_option maxHeartbeats 400000 in
theorem devOk_i_4_no (n p : Int) (h0 : 0 ≤ n) (h1 : n < 16) (h2 : ¬ p = 0) (w : World) : Calls Tryd.prog 18 #[.agg #[.int .i64 4, .int .i64 n, .int .i64 p]] w fun e w' => e = .returned (.bool false) ∧ Below w.heap.size w w' := by
  have ix : IntKind.i64.wrap 15 = 15 := by decide
  have d1 : decide (0 ≤ n) = true := by simp; omega
  have d2 : decide (n < 16) = true := by simp; omega
  have d3 : decide (n ≤ 15) = true := by simp; omega
  have hp0 : (p == 0) = false := by simpa using h2
  go_enter Tryd.func18, Tryd.ntmps18
  go_wp2_with (first | (go_at_call 49; refine (within_same _ _ _ _).mono ?_; rintro e w' ⟨rfl, rfl⟩) | (go_at_call 48; go_in))
  first | go_ret | (go_quiet ((first | (go_at_call 50; exact Calls.quiet_of_same (devSize_i_4 _)) | (go_at_call 49; exact Calls.quiet_of_same (within_same _ _ _ _)))); go_wp2; go_ret)
  exact ⟨rfl, by repeat (first | exact Below.refl _ _ | refine Below.alloc ?_ (by simp) _ | refine Below.drew ?_ | refine bel_drewN ?_ _)⟩
set_option maxRecDepth 100000 in
set_option maxHeartbeats 400000 in
theorem devOk_i_4_ok (n p : Int) (h0 : 0 ≤ n) (h1 : n < 16) (h2 : p = 0) (w : World) : Calls Tryd.prog 18 #[.agg #[.int .i64 4, .int .i64 n, .int .i64 p]] w fun e w' => e = .returned (.bool true) ∧ Below w.heap.size w w' := by
  have ix : IntKind.i64.wrap 15 = 15 := by decide
  have d1 : decide (0 ≤ n) = true := by simp; omega
  have d2 : decide (n < 16) = true := by simp; omega
  have d3 : decide (n ≤ 15) = true := by simp; omega
  have hp0 : (p == 0) = true := by simpa using h2
  go_enter Tryd.func18, Tryd.ntmps18
  go_wp2_with (first | (go_at_call 49; refine (within_same _ _ _ _).mono ?_; rintro e w' ⟨rfl, rfl⟩) | (go_at_call 48; go_in))
  first | go_ret | (go_quiet ((first | (go_at_call 50; exact Calls.quiet_of_same (devSize_i_4 _)) | (go_at_call 49; exact Calls.quiet_of_same (within_same _ _ _ _)))); go_wp2; go_ret)
  exact ⟨rfl, by repeat (first | exact Below.refl _ _ | refine Below.alloc ?_ (by simp) _ | refine Below.drew ?_ | refine bel_drewN ?_ _)⟩
set_option maxRecDepth 100000 in
set_option maxHeartbeats 400000 in
theorem devOk_i_5_lo (n p : Int) (h0 : n < 0) (w : World) : Calls Tryd.prog 18 #[.agg #[.int .i64 5, .int .i64 n, .int .i64 p]] w fun e w' => e = .returned (.bool false) ∧ Below w.heap.size w w' := by
  have ix : IntKind.i64.wrap 31 = 31 := by decide
  have d1 : decide (0 ≤ n) = false := by simp; omega
  go_enter Tryd.func18, Tryd.ntmps18
  go_wp2_with (first | (go_at_call 49; refine (within_same _ _ _ _).mono ?_; rintro e w' ⟨rfl, rfl⟩) | (go_at_call 48; go_in))
  first | go_ret | (go_quiet ((first | (go_at_call 50; exact Calls.quiet_of_same (devSize_i_5 _)) | (go_at_call 49; exact Calls.quiet_of_same (within_same _ _ _ _)))); go_wp2; go_ret)
  exact ⟨rfl, by repeat (first | exact Below.refl _ _ | refine Below.alloc ?_ (by simp) _ | refine Below.drew ?_ | refine bel_drewN ?_ _)⟩
set_option maxRecDepth 100000 in
set_option maxHeartbeats 400000 in
theorem devOk_i_5_hi (n p : Int) (h0 : 32 ≤ n) (w : World) : Calls Tryd.prog 18 #[.agg #[.int .i64 5, .int .i64 n, .int .i64 p]] w fun e w' => e = .returned (.bool false) ∧ Below w.heap.size w w' := by
  have ix : IntKind.i64.wrap 31 = 31 := by decide
  have d1 : decide (0 ≤ n) = true := by simp; omega
  have d2 : decide (n < 32) = false := by simp; omega
  have d3 : decide (n ≤ 31) = false := by simp; omega
  go_enter Tryd.func18, Tryd.ntmps18
  go_wp2_with (first | (go_at_call 49; refine (within_same _ _ _ _).mono ?_; rintro e w' ⟨rfl, rfl⟩) | (go_at_call 48; go_in))
  first | go_ret | (go_quiet ((first | (go_at_call 50; exact Calls.quiet_of_same (devSize_i_5 _)) | (go_at_call 49; exact Calls.quiet_of_same (within_same _ _ _ _)))); go_wp2; go_ret)
  exact ⟨rfl, by repeat (first | exact Below.refl _ _ | refine Below.alloc ?_ (by simp) _ | refine Below.drew ?_ | refine bel_drewN ?_ _)⟩
set_option maxRecDepth 100000 in
set_option maxHeartbeats 400000 in
theorem devOk_i_5_no (n p : Int) (h0 : 0 ≤ n) (h1 : n < 32) (h2 : ¬ p = 0) (w : World) : Calls Tryd.prog 18 #[.agg #[.int .i64 5, .int .i64 n, .int .i64 p]] w fun e w' => e = .returned (.bool false) ∧ Below w.heap.size w w' := by
  have ix : IntKind.i64.wrap 31 = 31 := by decide
  have d1 : decide (0 ≤ n) = true := by simp; omega
  have d2 : decide (n < 32) = true := by simp; omega
  have d3 : decide (n ≤ 31) = true := by simp; omega
  have hp0 : (p == 0) = false := by simpa using h2
  go_enter Tryd.func18, Tryd.ntmps18
  go_wp2_with (first | (go_at_call 49; refine (within_same _ _ _ _).mono ?_; rintro e w' ⟨rfl, rfl⟩) | (go_at_call 48; go_in))
  first | go_ret | (go_quiet ((first | (go_at_call 50; exact Calls.quiet_of_same (devSize_i_5 _)) | (go_at_call 49; exact Calls.quiet_of_same (within_same _ _ _ _)))); go_wp2; go_ret)
  exact ⟨rfl, by repeat (first | exact Below.refl _ _ | refine Below.alloc ?_ (by simp) _ | refine Below.drew ?_ | refine bel_drewN ?_ _)⟩
set_option maxRecDepth 100000 in
set_option maxHeartbeats 400000 in
theorem devOk_i_5_ok (n p : Int) (h0 : 0 ≤ n) (h1 : n < 32) (h2 : p = 0) (w : World) : Calls Tryd.prog 18 #[.agg #[.int .i64 5, .int .i64 n, .int .i64 p]] w fun e w' => e = .returned (.bool true) ∧ Below w.heap.size w w' := by
  have ix : IntKind.i64.wrap 31 = 31 := by decide
  have d1 : decide (0 ≤ n) = true := by simp; omega
  have d2 : decide (n < 32) = true := by simp; omega
  have d3 : decide (n ≤ 31) = true := by simp; omega
  have hp0 : (p == 0) = true := by simpa using h2
  go_enter Tryd.func18, Tryd.ntmps18
  go_wp2_with (first | (go_at_call 49; refine (within_same _ _ _ _).mono ?_; rintro e w' ⟨rfl, rfl⟩) | (go_at_call 48; go_in))
  first | go_ret | (go_quiet ((first | (go_at_call 50; exact Calls.quiet_of_same (devSize_i_5 _)) | (go_at_call 49; exact Calls.quiet_of_same (within_same _ _ _ _)))); go_wp2; go_ret)
  exact ⟨rfl, by repeat (first | exact Below.refl _ _ | refine Below.alloc ?_ (by simp) _ | refine Below.drew ?_ | refine bel_drewN ?_ _)⟩
set_option maxRecDepth 100000 in
set_option maxHeartbeats 400000 in
theorem devOk_i_6_lo (n p : Int) (h0 : n < 0) (w : World) : Calls Tryd.prog 18 #[.agg #[.int .i64 6, .int .i64 n, .int .i64 p]] w fun e w' => e = .returned (.bool false) ∧ Below w.heap.size w w' := by
  have ix : IntKind.i64.wrap 4 = 4 := by decide
  have d1 : decide (0 ≤ n) = false := by simp; omega
  go_enter Tryd.func18, Tryd.ntmps18
  go_wp2_with (first | (go_at_call 49; refine (within_same _ _ _ _).mono ?_; rintro e w' ⟨rfl, rfl⟩) | (go_at_call 48; go_in))
  first | go_ret | (go_quiet ((first | (go_at_call 50; exact Calls.quiet_of_same (devSize_i_6 _)) | (go_at_call 49; exact Calls.quiet_of_same (within_same _ _ _ _)))); go_wp2; go_ret)
  exact ⟨rfl, by repeat (first | exact Below.refl _ _ | refine Below.alloc ?_ (by simp) _ | refine Below.drew ?_ | refine bel_drewN ?_ _)⟩
set_option maxRecDepth 100000 in
set_option maxHeartbeats 400000 in
theorem devOk_i_6_hi (n p : Int) (h0 : 5 ≤ n) (w : World) : Calls Tryd.prog 18 #[.agg #[.int .i64 6, .int .i64 n, .int .i64 p]] w fun e w' => e = .returned (.bool false) ∧ Below w.heap.size w w' := by
  have ix : IntKind.i64.wrap 4 = 4 := by decide
  have d1 : decide (0 ≤ n) = true := by simp; omega
  have d2 : decide (n < 5) = false := by simp; omega
  have d3 : decide (n ≤ 4) = false := by simp; omega
  go_enter Tryd.func18, Tryd.ntmps18
  go_wp2_with (first | (go_at_call 49; refine (within_same _ _ _ _).mono ?_; rintro e w' ⟨rfl, rfl⟩) | (go_at_call 48; go_in))
  first | go_ret | (go_quiet ((first | (go_at_call 50; exact Calls.quiet_of_same (devSize_i_6 _)) | (go_at_call 49; exact Calls.quiet_of_same (within_same _ _ _ _)))); go_wp2; go_ret)
  exact ⟨rfl, by repeat (first | exact Below.refl _ _ | refine Below.alloc ?_ (by simp) _ | refine Below.drew ?_ | refine bel_drewN ?_ _)⟩
set_option maxRecDepth 100000 in
set_option maxHeartbeats 400000 in
theorem devOk_i_6_no (n p : Int) (h0 : 0 ≤ n) (h1 : n < 5) (h2 : ¬ p = 0) (w : World) : Calls Tryd.prog 18 #[.agg #[.int .i64 6, .int .i64 n, .int .i64 p]] w fun e w' => e = .returned (.bool false) ∧ Below w.heap.size w w' := by
  have ix : IntKind.i64.wrap 4 = 4 := by decide
  have d1 : decide (0 ≤ n) = true := by simp; omega
  have d2 : decide (n < 5) = true := by simp; omega
  have d3 : decide (n ≤ 4) = true := by simp; omega
  have hp0 : (p == 0) = false := by simpa using h2
  go_enter Tryd.func18, Tryd.ntmps18
  go_wp2_with (first | (go_at_call 49; refine (within_same _ _ _ _).mono ?_; rintro e w' ⟨rfl, rfl⟩) | (go_at_call 48; go_in))
  first | go_ret | (go_quiet ((first | (go_at_call 50; exact Calls.quiet_of_same (devSize_i_6 _)) | (go_at_call 49; exact Calls.quiet_of_same (within_same _ _ _ _)))); go_wp2; go_ret)
  exact ⟨rfl, by repeat (first | exact Below.refl _ _ | refine Below.alloc ?_ (by simp) _ | refine Below.drew ?_ | refine bel_drewN ?_ _)⟩
set_option maxRecDepth 100000 in
set_option maxHeartbeats 400000 in
theorem devOk_i_6_ok (n p : Int) (h0 : 0 ≤ n) (h1 : n < 5) (h2 : p = 0) (w : World) : Calls Tryd.prog 18 #[.agg #[.int .i64 6, .int .i64 n, .int .i64 p]] w fun e w' => e = .returned (.bool true) ∧ Below w.heap.size w w' := by
  have ix : IntKind.i64.wrap 4 = 4 := by decide
  have d1 : decide (0 ≤ n) = true := by simp; omega
  have d2 : decide (n < 5) = true := by simp; omega
  have d3 : decide (n ≤ 4) = true := by simp; omega
  have hp0 : (p == 0) = true := by simpa using h2
  go_enter Tryd.func18, Tryd.ntmps18
  go_wp2_with (first | (go_at_call 49; refine (within_same _ _ _ _).mono ?_; rintro e w' ⟨rfl, rfl⟩) | (go_at_call 48; go_in))
  first | go_ret | (go_quiet ((first | (go_at_call 50; exact Calls.quiet_of_same (devSize_i_6 _)) | (go_at_call 49; exact Calls.quiet_of_same (within_same _ _ _ _)))); go_wp2; go_ret)
  exact ⟨rfl, by repeat (first | exact Below.refl _ _ | refine Below.alloc ?_ (by simp) _ | refine Below.drew ?_ | refine bel_drewN ?_ _)⟩
set_option maxRecDepth 100000 in
set_option maxHeartbeats 400000 in
theorem devOk_i_7_lo (n p : Int) (h0 : n < 0) (w : World) : Calls Tryd.prog 18 #[.agg #[.int .i64 7, .int .i64 n, .int .i64 p]] w fun e w' => e = .returned (.bool false) ∧ Below w.heap.size w w' := by
  have ix : IntKind.i64.wrap 15 = 15 := by decide
  have d1 : decide (0 ≤ n) = false := by simp; omega
  go_enter Tryd.func18, Tryd.ntmps18
  go_wp2_with (first | (go_at_call 49; refine (within_same _ _ _ _).mono ?_; rintro e w' ⟨rfl, rfl⟩) | (go_at_call 48; go_in))
  first | go_ret | (go_quiet ((first | (go_at_call 50; exact Calls.quiet_of_same (devSize_i_7 _)) | (go_at_call 49; exact Calls.quiet_of_same (within_same _ _ _ _)))); go_wp2; go_ret)
  exact ⟨rfl, by repeat (first | exact Below.refl _ _ | refine Below.alloc ?_ (by simp) _ | refine Below.drew ?_ | refine bel_drewN ?_ _)⟩
set_option maxRecDepth 100000 in
set_option maxHeartbeats 400000 in
theorem devOk_i_7_hi (n p : Int) (h0 : 16 ≤ n) (w : World) : Calls Tryd.prog 18 #[.agg #[.int .i64 7, .int .i64 n, .int .i64 p]] w fun e w' => e = .returned (.bool false) ∧ Below w.heap.size w w' := by
  have ix : IntKind.i64.wrap 15 = 15 := by decide
  have d1 : decide (0 ≤ n) = true := by simp; omega
  have d2 : decide (n < 16) = false := by simp; omega
  have d3 : decide (n ≤ 15) = false := by simp; omega
  go_enter Tryd.func18, Tryd.ntmps18
  go_wp2_with (first | (go_at_call 49; refine (within_same _ _ _ _).mono ?_; rintro e w' ⟨rfl, rfl⟩) | (go_at_call 48; go_in))
  first | go_ret | (go_quiet ((first | (go_at_call 50; exact Calls.quiet_of_same (devSize_i_7 _)) | (go_at_call 49; exact Calls.quiet_of_same (within_same _ _ _ _)))); go_wp2; go_ret)
  exact ⟨rfl, by repeat (first | exact Below.refl _ _ | refine Below.alloc ?_ (by simp) _ | refine Below.drew ?_ | refine bel_drewN ?_ _)⟩
set_option maxRecDepth 100000 in
set_option maxHeartbeats 400000 in
theorem devOk_i_7_no (n p : Int) (h0 : 0 ≤ n) (h1 : n < 16) (h2 : ¬ p = 0) (w : World) : Calls Tryd.prog 18 #[.agg #[.int .i64 7, .int .i64 n, .int .i64 p]] w fun e w' => e = .returned (.bool false) ∧ Below w.heap.size w w' := by
  have ix : IntKind.i64.wrap 15 = 15 := by decide
  have d1 : decide (0 ≤ n) = true := by simp; omega
  have d2 : decide (n < 16) = true := by simp; omega
  have d3 : decide (n ≤ 15) = true := by simp; omega
  have hp0 : (p == 0) = false := by simpa using h2
  go_enter Tryd.func18, Tryd.ntmps18
  go_wp2_with (first | (go_at_call 49; refine (within_same _ _ _ _).mono ?_; rintro e w' ⟨rfl, rfl⟩) | (go_at_call 48; go_in))
  first | go_ret | (go_quiet ((first | (go_at_call 50; exact Calls.quiet_of_same (devSize_i_7 _)) | (go_at_call 49; exact Calls.quiet_of_same (within_same _ _ _ _)))); go_wp2; go_ret)
  exact ⟨rfl, by repeat (first | exact Below.refl _ _ | refine Below.alloc ?_ (by simp) _ | refine Below.drew ?_ | refine bel_drewN ?_ _)⟩
set_option maxRecDepth 100000 in
set_option maxHeartbeats 400000 in
theorem devOk_i_7_ok (n p : Int) (h0 : 0 ≤ n) (h1 : n < 16) (h2 : p = 0) (w : World) : Calls Tryd.prog 18 #[.agg #[.int .i64 7, .int .i64 n, .int .i64 p]] w fun e w' => e = .returned (.bool true) ∧ Below w.heap.size w w' := by
  have ix : IntKind.i64.wrap 15 = 15 := by decide
  have d1 : decide (0 ≤ n) = true := by simp; omega
  have d2 : decide (n < 16) = true := by simp; omega
  have d3 : decide (n ≤ 15) = true := by simp; omega
  have hp0 : (p == 0) = true := by simpa using h2
  go_enter Tryd.func18, Tryd.ntmps18
  go_wp2_with (first | (go_at_call 49; refine (within_same _ _ _ _).mono ?_; rintro e w' ⟨rfl, rfl⟩) | (go_at_call 48; go_in))
  first | go_ret | (go_quiet ((first | (go_at_call 50; exact Calls.quiet_of_same (devSize_i_7 _)) | (go_at_call 49; exact Calls.quiet_of_same (within_same _ _ _ _)))); go_wp2; go_ret)
  exact ⟨rfl, by repeat (first | exact Below.refl _ _ | refine Below.alloc ?_ (by simp) _ | refine Below.drew ?_ | refine bel_drewN ?_ _)⟩
set_option maxRecDepth 100000 in
set_option maxHeartbeats 400000 in
theorem devOk_i_8_lo (n p : Int) (h0 : n < 0) (w : World) : Calls Tryd.prog 18 #[.agg #[.int .i64 8, .int .i64 n, .int .i64 p]] w fun e w' => e = .returned (.bool false) ∧ Below w.heap.size w w' := by
  have ix : IntKind.i64.wrap 15 = 15 := by decide
  have d1 : decide (0 ≤ n) = false := by simp; omega
  go_enter Tryd.func18, Tryd.ntmps18
  go_wp2_with (first | (go_at_call 49; refine (within_same _ _ _ _).mono ?_; rintro e w' ⟨rfl, rfl⟩) | (go_at_call 48; go_in))
  first | go_ret | (go_quiet ((first | (go_at_call 50; exact Calls.quiet_of_same (devSize_i_8 _)) | (go_at_call 49; exact Calls.quiet_of_same (within_same _ _ _ _)))); go_wp2; go_ret)
  exact ⟨rfl, by repeat (first | exact Below.refl _ _ | refine Below.alloc ?_ (by simp) _ | refine Below.drew ?_ | refine bel_drewN ?_ _)⟩
set_option maxRecDepth 100000 in
set_option maxHeartbeats 400000 in
theorem devOk_i_8_hi (n p : Int) (h0 : 16 ≤ n) (w : World) : Calls Tryd.prog 18 #[.agg #[.int .i64 8, .int .i64 n, .int .i64 p]] w fun e w' => e = .returned (.bool false) ∧ Below w.heap.size w w' := by
  have ix : IntKind.i64.wrap 15 = 15 := by decide
  have d1 : decide (0 ≤ n) = true := by simp; omega
  have d2 : decide (n < 16) = false := by simp; omega
  have d3 : decide (n ≤ 15) = false := by simp; omega
  go_enter Tryd.func18, Tryd.ntmps18
  go_wp2_with (first | (go_at_call 49; refine (within_same _ _ _ _).mono ?_; rintro e w' ⟨rfl, rfl⟩) | (go_at_call 48; go_in))
  first | go_ret | (go_quiet ((first | (go_at_call 50; exact Calls.quiet_of_same (devSize_i_8 _)) | (go_at_call 49; exact Calls.quiet_of_same (within_same _ _ _ _)))); go_wp2; go_ret)
  exact ⟨rfl, by repeat (first | exact Below.refl _ _ | refine Below.alloc ?_ (by simp) _ | refine Below.drew ?_ | refine bel_drewN ?_ _)⟩
set_option maxRecDepth 100000 in
set_option maxHeartbeats 400000 in
theorem devOk_i_8_no (n p : Int) (h0 : 0 ≤ n) (h1 : n < 16) (h2 : ¬ p = 0) (w : World) : Calls Tryd.prog 18 #[.agg #[.int .i64 8, .int .i64 n, .int .i64 p]] w fun e w' => e = .returned (.bool false) ∧ Below w.heap.size w w' := by
  have ix : IntKind.i64.wrap 15 = 15 := by decide
  have d1 : decide (0 ≤ n) = true := by simp; omega
  have d2 : decide (n < 16) = true := by simp; omega
  have d3 : decide (n ≤ 15) = true := by simp; omega
  have hp0 : (p == 0) = false := by simpa using h2
  go_enter Tryd.func18, Tryd.ntmps18
  go_wp2_with (first | (go_at_call 49; refine (within_same _ _ _ _).mono ?_; rintro e w' ⟨rfl, rfl⟩) | (go_at_call 48; go_in))
  first | go_ret | (go_quiet ((first | (go_at_call 50; exact Calls.quiet_of_same (devSize_i_8 _)) | (go_at_call 49; exact Calls.quiet_of_same (within_same _ _ _ _)))); go_wp2; go_ret)
  exact ⟨rfl, by repeat (first | exact Below.refl _ _ | refine Below.alloc ?_ (by simp) _ | refine Below.drew ?_ | refine bel_drewN ?_ _)⟩
set_option maxRecDepth 100000 in
set_option maxHeartbeats 400000 in
theorem devOk_i_8_ok (n p : Int) (h0 : 0 ≤ n) (h1 : n < 16) (h2 : p = 0) (w : World) : Calls Tryd.prog 18 #[.agg #[.int .i64 8, .int .i64 n, .int .i64 p]] w fun e w' => e = .returned (.bool true) ∧ Below w.heap.size w w' := by
  have ix : IntKind.i64.wrap 15 = 15 := by decide
  have d1 : decide (0 ≤ n) = true := by simp; omega
  have d2 : decide (n < 16) = true := by simp; omega
  have d3 : decide (n ≤ 15) = true := by simp; omega
  have hp0 : (p == 0) = true := by simpa using h2
  go_enter Tryd.func18, Tryd.ntmps18
  go_wp2_with (first | (go_at_call 49; refine (within_same _ _ _ _).mono ?_; rintro e w' ⟨rfl, rfl⟩) | (go_at_call 48; go_in))
  first | go_ret | (go_quiet ((first | (go_at_call 50; exact Calls.quiet_of_same (devSize_i_8 _)) | (go_at_call 49; exact Calls.quiet_of_same (within_same _ _ _ _)))); go_wp2; go_ret)
  exact ⟨rfl, by repeat (first | exact Below.refl _ _ | refine Below.alloc ?_ (by simp) _ | refine Below.drew ?_ | refine bel_drewN ?_ _)⟩
set_option maxRecDepth 100000 in
set_option maxHeartbeats 400000 in
theorem devOk_i_9_lo (n p : Int) (h0 : n < 0) (w : World) : Calls Tryd.prog 18 #[.agg #[.int .i64 9, .int .i64 n, .int .i64 p]] w fun e w' => e = .returned (.bool false) ∧ Below w.heap.size w w' := by
  have ix : IntKind.i64.wrap 31 = 31 := by decide
  have d1 : decide (0 ≤ n) = false := by simp; omega
  go_enter Tryd.func18, Tryd.ntmps18
  go_wp2_with (first | (go_at_call 49; refine (within_same _ _ _ _).mono ?_; rintro e w' ⟨rfl, rfl⟩) | (go_at_call 48; go_in))
  first | go_ret | (go_quiet ((first | (go_at_call 50; exact Calls.quiet_of_same (devSize_i_9 _)) | (go_at_call 49; exact Calls.quiet_of_same (within_same _ _ _ _)))); go_wp2; go_ret)
  exact ⟨rfl, by repeat (first | exact Below.refl _ _ | refine Below.alloc ?_ (by simp) _ | refine Below.drew ?_ | refine bel_drewN ?_ _)⟩
set_option maxRecDepth 100000 in
set_option maxHeartbeats 400000 in
theorem devOk_i_9_hi (n p : Int) (h0 : 32 ≤ n) (w : World) : Calls Tryd.prog 18 #[.agg #[.int .i64 9, .int .i64 n, .int .i64 p]] w fun e w' => e = .returned (.bool false) ∧ Below w.heap.size w w' := by
  have ix : IntKind.i64.wrap 31 = 31 := by decide
  have d1 : decide (0 ≤ n) = true := by simp; omega
  have d2 : decide (n < 32) = false := by simp; omega
  have d3 : decide (n ≤ 31) = false := by simp; omega
  go_enter Tryd.func18, Tryd.ntmps18
  go_wp2_with (first | (go_at_call 49; refine (within_same _ _ _ _).mono ?_; rintro e w' ⟨rfl, rfl⟩) | (go_at_call 48; go_in))
  first | go_ret | (go_quiet ((first | (go_at_call 50; exact Calls.quiet_of_same (devSize_i_9 _)) | (go_at_call 49; exact Calls.quiet_of_same (within_same _ _ _ _)))); go_wp2; go_ret)
  exact ⟨rfl, by repeat (first | exact Below.refl _ _ | refine Below.alloc ?_ (by simp) _ | refine Below.drew ?_ | refine bel_drewN ?_ _)⟩
set_option maxRecDepth 100000 in
set_option maxHeartbeats 400000 in
theorem devOk_i_9_no (n p : Int) (h0 : 0 ≤ n) (h1 : n < 32) (h2 : ¬ p = 0) (w : World) : Calls Tryd.prog 18 #[.agg #[.int .i64 9, .int .i64 n, .int .i64 p]] w fun e w' => e = .returned (.bool false) ∧ Below w.heap.size w w' := by
  have ix : IntKind.i64.wrap 31 = 31 := by decide
  have d1 : decide (0 ≤ n) = true := by simp; omega
  have d2 : decide (n < 32) = true := by simp; omega
  have d3 : decide (n ≤ 31) = true := by simp; omega
  have hp0 : (p == 0) = false := by simpa using h2
  go_enter Tryd.func18, Tryd.ntmps18
  go_wp2_with (first | (go_at_call 49; refine (within_same _ _ _ _).mono ?_; rintro e w' ⟨rfl, rfl⟩) | (go_at_call 48; go_in))
  first | go_ret | (go_quiet ((first | (go_at_call 50; exact Calls.quiet_of_same (devSize_i_9 _)) | (go_at_call 49; exact Calls.quiet_of_same (within_same _ _ _ _)))); go_wp2; go_ret)
  exact ⟨rfl, by repeat (first | exact Below.refl _ _ | refine Below.alloc ?_ (by simp) _ | refine Below.drew ?_ | refine bel_drewN ?_ _)⟩
set_option maxRecDepth 100000 in
set_option maxHeartbeats 400000 in
theorem devOk_i_9_ok (n p : Int) (h0 : 0 ≤ n) (h1 : n < 32) (h2 : p = 0) (w : World) : Calls Tryd.prog 18 #[.agg #[.int .i64 9, .int .i64 n, .int .i64 p]] w fun e w' => e = .returned (.bool true) ∧ Below w.heap.size w w' := by
  have ix : IntKind.i64.wrap 31 = 31 := by decide
  have d1 : decide (0 ≤ n) = true := by simp; omega
  have d2 : decide (n < 32) = true := by simp; omega
  have d3 : decide (n ≤ 31) = true := by simp; omega
  have hp0 : (p == 0) = true := by simpa using h2
  go_enter Tryd.func18, Tryd.ntmps18
  go_wp2_with (first | (go_at_call 49; refine (within_same _ _ _ _).mono ?_; rintro e w' ⟨rfl, rfl⟩) | (go_at_call 48; go_in))
  first | go_ret | (go_quiet ((first | (go_at_call 50; exact Calls.quiet_of_same (devSize_i_9 _)) | (go_at_call 49; exact Calls.quiet_of_same (within_same _ _ _ _)))); go_wp2; go_ret)
  exact ⟨rfl, by repeat (first | exact Below.refl _ _ | refine Below.alloc ?_ (by simp) _ | refine Below.drew ?_ | refine bel_drewN ?_ _)⟩
set_option maxRecDepth 100000 in
set_option maxHeartbeats 400000 in
theorem devOk_i_10_lo (n p : Int) (h0 : n < 0) (w : World) : Calls Tryd.prog 18 #[.agg #[.int .i64 10, .int .i64 n, .int .i64 p]] w fun e w' => e = .returned (.bool false) ∧ Below w.heap.size w w' := by
  have ix : IntKind.i64.wrap 15 = 15 := by decide
  have d1 : decide (0 ≤ n) = false := by simp; omega
  go_enter Tryd.func18, Tryd.ntmps18
  go_wp2_with (first | (go_at_call 49; refine (within_same _ _ _ _).mono ?_; rintro e w' ⟨rfl, rfl⟩) | (go_at_call 48; go_in))
  first | go_ret | (go_quiet ((first | (go_at_call 50; exact Calls.quiet_of_same (devSize_i_10 _)) | (go_at_call 49; exact Calls.quiet_of_same (within_same _ _ _ _)))); go_wp2; go_ret)
  exact ⟨rfl, by repeat (first | exact Below.refl _ _ | refine Below.alloc ?_ (by simp) _ | refine Below.drew ?_ | refine bel_drewN ?_ _)⟩
set_option maxRecDepth 100000 in
set_option maxHeartbeats 400000 in
theorem devOk_i_10_hi (n p : Int) (h0 : 16 ≤ n) (w : World) : Calls Tryd.prog 18 #[.agg #[.int .i64 10, .int .i64 n, .int .i64 p]] w fun e w' => e = .returned (.bool false) ∧ Below w.heap.size w w' := by
  have ix : IntKind.i64.wrap 15 = 15 := by decide
  have d1 : decide (0 ≤ n) = true := by simp; omega
  have d2 : decide (n < 16) = false := by simp; omega
  have d3 : decide (n ≤ 15) = false := by simp; omega
  go_enter Tryd.func18, Tryd.ntmps18
  go_wp2_with (first | (go_at_call 49; refine (within_same _ _ _ _).mono ?_; rintro e w' ⟨rfl, rfl⟩) | (go_at_call 48; go_in))
  first | go_ret | (go_quiet ((first | (go_at_call 50; exact Calls.quiet_of_same (devSize_i_10 _)) | (go_at_call 49; exact Calls.quiet_of_same (within_same _ _ _ _)))); go_wp2; go_ret)
  exact ⟨rfl, by repeat (first | exact Below.refl _ _ | refine Below.alloc ?_ (by simp) _ | refine Below.drew ?_ | refine bel_drewN ?_ _)⟩
set_option maxRecDepth 100000 in
set_option maxHeartbeats 400000 in
theorem devOk_i_10_no (n p : Int) (h0 : 0 ≤ n) (h1 : n < 16) (h2 : ¬ p = 0) (w : World) : Calls Tryd.prog 18 #[.agg #[.int .i64 10, .int .i64 n, .int .i64 p]] w fun e w' => e = .returned (.bool false) ∧ Below w.heap.size w w' := by
  have ix : IntKind.i64.wrap 15 = 15 := by decide
  have d1 : decide (0 ≤ n) = true := by simp; omega
  have d2 : decide (n < 16) = true := by simp; omega
  have d3 : decide (n ≤ 15) = true := by simp; omega
  have hp0 : (p == 0) = false := by simpa using h2
  go_enter Tryd.func18, Tryd.ntmps18
  go_wp2_with (first | (go_at_call 49; refine (within_same _ _ _ _).mono ?_; rintro e w' ⟨rfl, rfl⟩) | (go_at_call 48; go_in))
  first | go_ret | (go_quiet ((first | (go_at_call 50; exact Calls.quiet_of_same (devSize_i_10 _)) | (go_at_call 49; exact Calls.quiet_of_same (within_same _ _ _ _)))); go_wp2; go_ret)
  exact ⟨rfl, by repeat (first | exact Below.refl _ _ | refine Below.alloc ?_ (by simp) _ | refine Below.drew ?_ | refine bel_drewN ?_ _)⟩
set_option maxRecDepth 100000 in
set_option maxHeartbeats 400000 in
theorem devOk_i_10_ok (n p : Int) (h0 : 0 ≤ n) (h1 : n < 16) (h2 : p = 0) (w : World) : Calls Tryd.prog 18 #[.agg #[.int .i64 10, .int .i64 n, .int .i64 p]] w fun e w' => e = .returned (.bool true) ∧ Below w.heap.size w w' := by
  have ix : IntKind.i64.wrap 15 = 15 := by decide
  have d1 : decide (0 ≤ n) = true := by simp; omega
  have d2 : decide (n < 16) = true := by simp; omega
  have d3 : decide (n ≤ 15) = true := by simp; omega
  have hp0 : (p == 0) = true := by simpa using h2
  go_enter Tryd.func18, Tryd.ntmps18
  go_wp2_with (first | (go_at_call 49; refine (within_same _ _ _ _).mono ?_; rintro e w' ⟨rfl, rfl⟩) | (go_at_call 48; go_in))
  first | go_ret | (go_quiet ((first | (go_at_call 50; exact Calls.quiet_of_same (devSize_i_10 _)) | (go_at_call 49; exact Calls.quiet_of_same (within_same _ _ _ _)))); go_wp2; go_ret)
  exact ⟨rfl, by repeat (first | exact Below.refl _ _ | refine Below.alloc ?_ (by simp) _ | refine Below.drew ?_ | refine bel_drewN ?_ _)⟩
set_option maxRecDepth 100000 in
set_option maxHeartbeats 400000 in
theorem devOk_i_11_lo (n p : Int) (h0 : n < (-32768)) (w : World) : Calls Tryd.prog 18 #[.agg #[.int .i64 11, .int .i64 n, .int .i64 p]] w fun e w' => e = .returned (.bool false) ∧ Below w.heap.size w w' := by
  have d1 : decide ((-32768) ≤ n) = false := by simp; omega
  go_enter Tryd.func18, Tryd.ntmps18
  go_wp2_with (first | (go_at_call 49; refine (within_same _ _ _ _).mono ?_; rintro e w' ⟨rfl, rfl⟩) | (go_at_call 48; go_in))
  first | go_ret | (go_quiet ((first | (go_at_call 49; exact Calls.quiet_of_same (within_same _ _ _ _)))); go_wp2; go_ret)
  exact ⟨rfl, by repeat (first | exact Below.refl _ _ | refine Below.alloc ?_ (by simp) _ | refine Below.drew ?_ | refine bel_drewN ?_ _)⟩
set_option maxRecDepth 100000 in
set_option maxHeartbeats 400000 in
theorem devOk_i_11_hi (n p : Int) (h0 : 32768 ≤ n) (w : World) : Calls Tryd.prog 18 #[.agg #[.int .i64 11, .int .i64 n, .int .i64 p]] w fun e w' => e = .returned (.bool false) ∧ Below w.heap.size w w' := by
  have d1 : decide ((-32768) ≤ n) = true := by simp; omega
  have d2 : decide (n < 32768) = false := by simp; omega
  have d3 : decide (n ≤ 32767) = false := by simp; omega
  go_enter Tryd.func18, Tryd.ntmps18
  go_wp2_with (first | (go_at_call 49; refine (within_same _ _ _ _).mono ?_; rintro e w' ⟨rfl, rfl⟩) | (go_at_call 48; go_in))
  first | go_ret | (go_quiet ((first | (go_at_call 49; exact Calls.quiet_of_same (within_same _ _ _ _)))); go_wp2; go_ret)
  exact ⟨rfl, by repeat (first | exact Below.refl _ _ | refine Below.alloc ?_ (by simp) _ | refine Below.drew ?_ | refine bel_drewN ?_ _)⟩
set_option maxRecDepth 100000 in
set_option maxHeartbeats 400000 in
theorem devOk_i_11_no (n p : Int) (h0 : (-32768) ≤ n) (h1 : n < 32768) (h2 : ¬ p = 0) (w : World) : Calls Tryd.prog 18 #[.agg #[.int .i64 11, .int .i64 n, .int .i64 p]] w fun e w' => e = .returned (.bool false) ∧ Below w.heap.size w w' := by
  have d1 : decide ((-32768) ≤ n) = true := by simp; omega
  have d2 : decide (n < 32768) = true := by simp; omega
  have d3 : decide (n ≤ 32767) = true := by simp; omega
  have hp0 : (p == 0) = false := by simpa using h2
  go_enter Tryd.func18, Tryd.ntmps18
  go_wp2_with (first | (go_at_call 49; refine (within_same _ _ _ _).mono ?_; rintro e w' ⟨rfl, rfl⟩) | (go_at_call 48; go_in))
  first | go_ret | (go_quiet ((first | (go_at_call 49; exact Calls.quiet_of_same (within_same _ _ _ _)))); go_wp2; go_ret)
  exact ⟨rfl, by repeat (first | exact Below.refl _ _ | refine Below.alloc ?_ (by simp) _ | refine Below.drew ?_ | refine bel_drewN ?_ _)⟩
set_option maxRecDepth 100000 in
set_option maxHeartbeats 400000 in
theorem devOk_i_11_ok (n p : Int) (h0 : (-32768) ≤ n) (h1 : n < 32768) (h2 : p = 0) (w : World) : Calls Tryd.prog 18 #[.agg #[.int .i64 11, .int .i64 n, .int .i64 p]] w fun e w' => e = .returned (.bool true) ∧ Below w.heap.size w w' := by
  have d1 : decide ((-32768) ≤ n) = true := by simp; omega
  have d2 : decide (n < 32768) = true := by simp; omega
  have d3 : decide (n ≤ 32767) = true := by simp; omega
  have hp0 : (p == 0) = true := by simpa using h2
  go_enter Tryd.func18, Tryd.ntmps18
  go_wp2_with (first | (go_at_call 49; refine (within_same _ _ _ _).mono ?_; rintro e w' ⟨rfl, rfl⟩) | (go_at_call 48; go_in))
  first | go_ret | (go_quiet ((first | (go_at_call 49; exact Calls.quiet_of_same (within_same _ _ _ _)))); go_wp2; go_ret)
  exact ⟨rfl, by repeat (first | exact Below.refl _ _ | refine Below.alloc ?_ (by simp) _ | refine Below.drew ?_ | refine bel_drewN ?_ _)⟩
set_option maxRecDepth 100000 in
set_option maxHeartbeats 400000 in
theorem devOk_i_13_lo (n p : Int) (h0 : n < 0) (w : World) : Calls Tryd.prog 18 #[.agg #[.int .i64 13, .int .i64 n, .int .i64 p]] w fun e w' => e = .returned (.bool false) ∧ Below w.heap.size w w' := by
  have d1 : decide (0 ≤ n) = false := by simp; omega
  go_enter Tryd.func18, Tryd.ntmps18
  go_wp2_with (first | (go_at_call 49; refine (within_same _ _ _ _).mono ?_; rintro e w' ⟨rfl, rfl⟩) | (go_at_call 48; go_in))
  first | go_ret | (go_quiet ((first | (go_at_call 49; exact Calls.quiet_of_same (within_same _ _ _ _)))); go_wp2; go_ret)
  exact ⟨rfl, by repeat (first | exact Below.refl _ _ | refine Below.alloc ?_ (by simp) _ | refine Below.drew ?_ | refine bel_drewN ?_ _)⟩
set_option maxRecDepth 100000 in
set_option maxHeartbeats 400000 in
theorem devOk_i_13_hi (n p : Int) (h0 : 4 ≤ n) (w : World) : Calls Tryd.prog 18 #[.agg #[.int .i64 13, .int .i64 n, .int .i64 p]] w fun e w' => e = .returned (.bool false) ∧ Below w.heap.size w w' := by
  have d1 : decide (0 ≤ n) = true := by simp; omega
  have d2 : decide (n < 4) = false := by simp; omega
  have d3 : decide (n ≤ 3) = false := by simp; omega
  go_enter Tryd.func18, Tryd.ntmps18
  go_wp2_with (first | (go_at_call 49; refine (within_same _ _ _ _).mono ?_; rintro e w' ⟨rfl, rfl⟩) | (go_at_call 48; go_in))
  first | go_ret | (go_quiet ((first | (go_at_call 49; exact Calls.quiet_of_same (within_same _ _ _ _)))); go_wp2; go_ret)
  exact ⟨rfl, by repeat (first | exact Below.refl _ _ | refine Below.alloc ?_ (by simp) _ | refine Below.drew ?_ | refine bel_drewN ?_ _)⟩
set_option maxRecDepth 100000 in
set_option maxHeartbeats 400000 in
theorem devOk_i_13_no (n p : Int) (h0 : 0 ≤ n) (h1 : n < 4) (h2 : ¬ p = 0) (w : World) : Calls Tryd.prog 18 #[.agg #[.int .i64 13, .int .i64 n, .int .i64 p]] w fun e w' => e = .returned (.bool false) ∧ Below w.heap.size w w' := by
  have d1 : decide (0 ≤ n) = true := by simp; omega
  have d2 : decide (n < 4) = true := by simp; omega
  have d3 : decide (n ≤ 3) = true := by simp; omega
  have hp0 : (p == 0) = false := by simpa using h2
  go_enter Tryd.func18, Tryd.ntmps18
  go_wp2_with (first | (go_at_call 49; refine (within_same _ _ _ _).mono ?_; rintro e w' ⟨rfl, rfl⟩) | (go_at_call 48; go_in))
  first | go_ret | (go_quiet ((first | (go_at_call 49; exact Calls.quiet_of_same (within_same _ _ _ _)))); go_wp2; go_ret)
  exact ⟨rfl, by repeat (first | exact Below.refl _ _ | refine Below.alloc ?_ (by simp) _ | refine Below.drew ?_ | refine bel_drewN ?_ _)⟩
set_option maxRecDepth 100000 in
set_option maxHeartbeats 400000 in
theorem devOk_i_13_ok (n p : Int) (h0 : 0 ≤ n) (h1 : n < 4) (h2 : p = 0) (w : World) : Calls Tryd.prog 18 #[.agg #[.int .i64 13, .int .i64 n, .int .i64 p]] w fun e w' => e = .returned (.bool true) ∧ Below w.heap.size w w' := by
  have d1 : decide (0 ≤ n) = true := by simp; omega
  have d2 : decide (n < 4) = true := by simp; omega
  have d3 : decide (n ≤ 3) = true := by simp; omega
  have hp0 : (p == 0) = true := by simpa using h2
  go_enter Tryd.func18, Tryd.ntmps18
  go_wp2_with (first | (go_at_call 49; refine (within_same _ _ _ _).mono ?_; rintro e w' ⟨rfl, rfl⟩) | (go_at_call 48; go_in))
  first | go_ret | (go_quiet ((first | (go_at_call 49; exact Calls.quiet_of_same (within_same _ _ _ _)))); go_wp2; go_ret)
  exact ⟨rfl, by repeat (first | exact Below.refl _ _ | refine Below.alloc ?_ (by simp) _ | refine Below.drew ?_ | refine bel_drewN ?_ _)⟩
set_option maxRecDepth 100000 in
set_option maxHeartbeats 400000 in
theorem devOk_i_12_a (n p : Int) (h0 : n < -999999999) (w : World) : Calls Tryd.prog 18 #[.agg #[.int .i64 12, .int .i64 n, .int .i64 p]] w fun e w' => e = .returned (.bool false) ∧ Below w.heap.size w w' := by
  have q14f9536 : decide (-999999999 ≤ n) = false := by simp; omega
  go_enter Tryd.func18, Tryd.ntmps18
  go_wp2_with (first | (go_at_call 49; refine (within_same _ _ _ _).mono ?_; rintro e w' ⟨rfl, rfl⟩) | (go_at_call 48; go_in))
  first | go_ret | (go_quiet ((first | (go_at_call 49; exact Calls.quiet_of_same (within_same _ _ _ _)))); go_wp2; go_ret)
  exact ⟨rfl, by repeat (first | exact Below.refl _ _ | refine Below.alloc ?_ (by simp) _ | refine Below.drew ?_ | refine bel_drewN ?_ _)⟩
set_option maxRecDepth 100000 in
set_option maxHeartbeats 400000 in
theorem devOk_i_12_b (n p : Int) (h0 : 999999999 < n) (w : World) : Calls Tryd.prog 18 #[.agg #[.int .i64 12, .int .i64 n, .int .i64 p]] w fun e w' => e = .returned (.bool false) ∧ Below w.heap.size w w' := by
  have q14t9536 : decide (-999999999 ≤ n) = true := by simp; omega
  have q13f9491 : decide (n ≤ 999999999) = false := by simp; omega
  go_enter Tryd.func18, Tryd.ntmps18
  go_wp2_with (first | (go_at_call 49; refine (within_same _ _ _ _).mono ?_; rintro e w' ⟨rfl, rfl⟩) | (go_at_call 48; go_in))
  first | go_ret | (go_quiet ((first | (go_at_call 49; exact Calls.quiet_of_same (within_same _ _ _ _)))); go_wp2; go_ret)
  exact ⟨rfl, by repeat (first | exact Below.refl _ _ | refine Below.alloc ?_ (by simp) _ | refine Below.drew ?_ | refine bel_drewN ?_ _)⟩
set_option maxRecDepth 100000 in
set_option maxHeartbeats 400000 in
theorem devOk_i_12_c (n p : Int) (h0 : -999999999 ≤ n) (h1 : n ≤ 999999999) (h2 : p < 1) (w : World) : Calls Tryd.prog 18 #[.agg #[.int .i64 12, .int .i64 n, .int .i64 p]] w fun e w' => e = .returned (.bool false) ∧ Below w.heap.size w w' := by
  have q14t9536 : decide (-999999999 ≤ n) = true := by simp; omega
  have q13t9491 : decide (n ≤ 999999999) = true := by simp; omega
  have q5f9029 : decide (1 ≤ p) = false := by simp; omega
  go_enter Tryd.func18, Tryd.ntmps18
  go_wp2_with (first | (go_at_call 49; refine (within_same _ _ _ _).mono ?_; rintro e w' ⟨rfl, rfl⟩) | (go_at_call 48; go_in))
  first | go_ret | (go_quiet ((first | (go_at_call 49; exact Calls.quiet_of_same (within_same _ _ _ _)))); go_wp2; go_ret)
  exact ⟨rfl, by repeat (first | exact Below.refl _ _ | refine Below.alloc ?_ (by simp) _ | refine Below.drew ?_ | refine bel_drewN ?_ _)⟩
set_option maxRecDepth 100000 in
set_option maxHeartbeats 400000 in
theorem devOk_i_12_d (n p : Int) (h0 : -999999999 ≤ n) (h1 : n ≤ 999999999) (h2 : 6 < p) (w : World) : Calls Tryd.prog 18 #[.agg #[.int .i64 12, .int .i64 n, .int .i64 p]] w fun e w' => e = .returned (.bool false) ∧ Below w.heap.size w w' := by
  have q14t9536 : decide (-999999999 ≤ n) = true := by simp; omega
  have q13t9491 : decide (n ≤ 999999999) = true := by simp; omega
  have q5t9029 : decide (1 ≤ p) = true := by simp; omega
  have q5f9034 : decide (p ≤ 6) = false := by simp; omega
  go_enter Tryd.func18, Tryd.ntmps18
  go_wp2_with (first | (go_at_call 49; refine (within_same _ _ _ _).mono ?_; rintro e w' ⟨rfl, rfl⟩) | (go_at_call 48; go_in))
  first | go_ret | (go_quiet ((first | (go_at_call 49; exact Calls.quiet_of_same (within_same _ _ _ _)))); go_wp2; go_ret)
  exact ⟨rfl, by repeat (first | exact Below.refl _ _ | refine Below.alloc ?_ (by simp) _ | refine Below.drew ?_ | refine bel_drewN ?_ _)⟩
set_option maxRecDepth 100000 in
set_option maxHeartbeats 400000 in
theorem devOk_i_12_e (n p : Int) (h0 : -999999999 ≤ n) (h1 : n ≤ 999999999) (h2 : p = 1) (w : World) : Calls Tryd.prog 18 #[.agg #[.int .i64 12, .int .i64 n, .int .i64 p]] w fun e w' => e = .returned (.bool true) ∧ Below w.heap.size w w' := by
  have q14t9536 : decide (-999999999 ≤ n) = true := by simp; omega
  have q13t9491 : decide (n ≤ 999999999) = true := by simp; omega
  have q5t9029 : decide (1 ≤ p) = true := by simp; omega
  have q5t9034 : decide (p ≤ 6) = true := by simp; omega
  have e1 : (p == 1) = true := by simpa using h2
  go_enter Tryd.func18, Tryd.ntmps18
  go_wp2_with (first | (go_at_call 49; refine (within_same _ _ _ _).mono ?_; rintro e w' ⟨rfl, rfl⟩) | (go_at_call 48; go_in))
  first | go_ret | (go_quiet ((first | (go_at_call 49; exact Calls.quiet_of_same (within_same _ _ _ _)))); go_wp2; go_ret)
  exact ⟨rfl, by repeat (first | exact Below.refl _ _ | refine Below.alloc ?_ (by simp) _ | refine Below.drew ?_ | refine bel_drewN ?_ _)⟩
set_option maxRecDepth 100000 in
set_option maxHeartbeats 400000 in
theorem devOk_i_12_f (n p : Int) (h0 : -999999999 ≤ n) (h1 : n ≤ 999999999) (h2 : 1 < p) (h3 : p ≤ 6) (h4 : n.tmod 10 ≠ 0) (w : World) : Calls Tryd.prog 18 #[.agg #[.int .i64 12, .int .i64 n, .int .i64 p]] w fun e w' => e = .returned (.bool true) ∧ Below w.heap.size w w' := by
  have q14t9536 : decide (-999999999 ≤ n) = true := by simp; omega
  have q13t9491 : decide (n ≤ 999999999) = true := by simp; omega
  have q5t9029 : decide (1 ≤ p) = true := by simp; omega
  have q5t9034 : decide (p ≤ 6) = true := by simp; omega
  have e1 : (p == 1) = false := by simp; omega
  have e2 : (n.tmod 10 != 0) = true := by simpa using h4
  go_enter Tryd.func18, Tryd.ntmps18
  go_wp2_with (first | (go_at_call 49; refine (within_same _ _ _ _).mono ?_; rintro e w' ⟨rfl, rfl⟩) | (go_at_call 48; go_in))
  first | go_ret | (go_quiet ((first | (go_at_call 49; exact Calls.quiet_of_same (within_same _ _ _ _)))); go_wp2; go_ret)
  exact ⟨rfl, by repeat (first | exact Below.refl _ _ | refine Below.alloc ?_ (by simp) _ | refine Below.drew ?_ | refine bel_drewN ?_ _)⟩
set_option maxRecDepth 100000 in
set_option maxHeartbeats 400000 in
theorem devOk_i_12_g (n p : Int) (h0 : -999999999 ≤ n) (h1 : n ≤ 999999999) (h2 : 1 < p) (h3 : p ≤ 6) (h4 : n.tmod 10 = 0) (w : World) : Calls Tryd.prog 18 #[.agg #[.int .i64 12, .int .i64 n, .int .i64 p]] w fun e w' => e = .returned (.bool false) ∧ Below w.heap.size w w' := by
  have q14t9536 : decide (-999999999 ≤ n) = true := by simp; omega
  have q13t9491 : decide (n ≤ 999999999) = true := by simp; omega
  have q5t9029 : decide (1 ≤ p) = true := by simp; omega
  have q5t9034 : decide (p ≤ 6) = true := by simp; omega
  have e1 : (p == 1) = false := by simp; omega
  have e2 : (n.tmod 10 != 0) = false := by simpa using h4
  clear h4
  go_enter Tryd.func18, Tryd.ntmps18
  go_wp2_with (first | (go_at_call 49; refine (within_same _ _ _ _).mono ?_; rintro e w' ⟨rfl, rfl⟩) | (go_at_call 48; go_in))
  first | go_ret | (go_quiet ((first | (go_at_call 49; exact Calls.quiet_of_same (within_same _ _ _ _)))); go_wp2; go_ret)
  exact ⟨rfl, by repeat (first | exact Below.refl _ _ | refine Below.alloc ?_ (by simp) _ | refine Below.drew ?_ | refine bel_drewN ?_ _)⟩
theorem devOk_i_any (k n p : Int) (w : World) : Calls Tryd.prog 18 #[.agg #[.int .i64 k, .int .i64 n, .int .i64 p]] w fun e w' => e = .returned (.bool (DevP.ok k n p)) ∧ Below w.heap.size w w' := by
  by_cases hl : k < 1
  · rw [DevP.ok_low hl]
    exact devOk_i_low k n p hl w
  by_cases hh : 13 < k
  · rw [DevP.ok_high hh]
    exact devOk_i_high k n p hh w
  have hk : k = 1 ∨ k = 2 ∨ k = 3 ∨ k = 4 ∨ k = 5 ∨ k = 6 ∨ k = 7 ∨ k = 8 ∨ k = 9 ∨ k = 10 ∨ k = 11 ∨ k = 12 ∨ k = 13 := by omega
  rcases hk with rfl | rfl | rfl | rfl | rfl | rfl | rfl | rfl | rfl | rfl | rfl | rfl | rfl
  · rw [DevP.ok_dev (by omega), show DevP.size 1 = 32 from rfl]
    by_cases a : n < 0
    · rw [decide_eq_false (by omega)]; exact devOk_i_1_lo n p a w
    by_cases b : 32 ≤ n
    · rw [decide_eq_false (by omega)]; exact devOk_i_1_hi n p b w
    by_cases c : p = 0
    · rw [decide_eq_true (by omega)]; exact devOk_i_1_ok n p (by omega) (by omega) c w
    · rw [decide_eq_false (by omega)]; exact devOk_i_1_no n p (by omega) (by omega) c w
  · rw [DevP.ok_dev (by omega), show DevP.size 2 = 32 from rfl]
    by_cases a : n < 0
    · rw [decide_eq_false (by omega)]; exact devOk_i_2_lo n p a w
    by_cases b : 32 ≤ n
    · rw [decide_eq_false (by omega)]; exact devOk_i_2_hi n p b w
    by_cases c : p = 0
    · rw [decide_eq_true (by omega)]; exact devOk_i_2_ok n p (by omega) (by omega) c w
    · rw [decide_eq_false (by omega)]; exact devOk_i_2_no n p (by omega) (by omega) c w
  · rw [DevP.ok_dev (by omega), show DevP.size 3 = 64 from rfl]
    by_cases a : n < 0
    · rw [decide_eq_false (by omega)]; exact devOk_i_3_lo n p a w
    by_cases b : 64 ≤ n
    · rw [decide_eq_false (by omega)]; exact devOk_i_3_hi n p b w
    by_cases c : p = 0
    · rw [decide_eq_true (by omega)]; exact devOk_i_3_ok n p (by omega) (by omega) c w
    · rw [decide_eq_false (by omega)]; exact devOk_i_3_no n p (by omega) (by omega) c w
  · rw [DevP.ok_dev (by omega), show DevP.size 4 = 16 from rfl]
    by_cases a : n < 0
    · rw [decide_eq_false (by omega)]; exact devOk_i_4_lo n p a w
    by_cases b : 16 ≤ n
    · rw [decide_eq_false (by omega)]; exact devOk_i_4_hi n p b w
    by_cases c : p = 0
    · rw [decide_eq_true (by omega)]; exact devOk_i_4_ok n p (by omega) (by omega) c w
    · rw [decide_eq_false (by omega)]; exact devOk_i_4_no n p (by omega) (by omega) c w
  · rw [DevP.ok_dev (by omega), show DevP.size 5 = 32 from rfl]
    by_cases a : n < 0
    · rw [decide_eq_false (by omega)]; exact devOk_i_5_lo n p a w
    by_cases b : 32 ≤ n
    · rw [decide_eq_false (by omega)]; exact devOk_i_5_hi n p b w
    by_cases c : p = 0
    · rw [decide_eq_true (by omega)]; exact devOk_i_5_ok n p (by omega) (by omega) c w
    · rw [decide_eq_false (by omega)]; exact devOk_i_5_no n p (by omega) (by omega) c w
  · rw [DevP.ok_dev (by omega), show DevP.size 6 = 5 from rfl]
    by_cases a : n < 0
    · rw [decide_eq_false (by omega)]; exact devOk_i_6_lo n p a w
    by_cases b : 5 ≤ n
    · rw [decide_eq_false (by omega)]; exact devOk_i_6_hi n p b w
    by_cases c : p = 0
    · rw [decide_eq_true (by omega)]; exact devOk_i_6_ok n p (by omega) (by omega) c w
    · rw [decide_eq_false (by omega)]; exact devOk_i_6_no n p (by omega) (by omega) c w
  · rw [DevP.ok_dev (by omega), show DevP.size 7 = 16 from rfl]
    by_cases a : n < 0
    · rw [decide_eq_false (by omega)]; exact devOk_i_7_lo n p a w
    by_cases b : 16 ≤ n
    · rw [decide_eq_false (by omega)]; exact devOk_i_7_hi n p b w
    by_cases c : p = 0
    · rw [decide_eq_true (by omega)]; exact devOk_i_7_ok n p (by omega) (by omega) c w
    · rw [decide_eq_false (by omega)]; exact devOk_i_7_no n p (by omega) (by omega) c w
  · rw [DevP.ok_dev (by omega), show DevP.size 8 = 16 from rfl]
    by_cases a : n < 0
    · rw [decide_eq_false (by omega)]; exact devOk_i_8_lo n p a w
    by_cases b : 16 ≤ n
    · rw [decide_eq_false (by omega)]; exact devOk_i_8_hi n p b w
    by_cases c : p = 0
    · rw [decide_eq_true (by omega)]; exact devOk_i_8_ok n p (by omega) (by omega) c w
    · rw [decide_eq_false (by omega)]; exact devOk_i_8_no n p (by omega) (by omega) c w
  · rw [DevP.ok_dev (by omega), show DevP.size 9 = 32 from rfl]
    by_cases a : n < 0
    · rw [decide_eq_false (by omega)]; exact devOk_i_9_lo n p a w
    by_cases b : 32 ≤ n
    · rw [decide_eq_false (by omega)]; exact devOk_i_9_hi n p b w
    by_cases c : p = 0
    · rw [decide_eq_true (by omega)]; exact devOk_i_9_ok n p (by omega) (by omega) c w
    · rw [decide_eq_false (by omega)]; exact devOk_i_9_no n p (by omega) (by omega) c w
  · rw [DevP.ok_dev (by omega), show DevP.size 10 = 16 from rfl]
    by_cases a : n < 0
    · rw [decide_eq_false (by omega)]; exact devOk_i_10_lo n p a w
    by_cases b : 16 ≤ n
    · rw [decide_eq_false (by omega)]; exact devOk_i_10_hi n p b w
    by_cases c : p = 0
    · rw [decide_eq_true (by omega)]; exact devOk_i_10_ok n p (by omega) (by omega) c w
    · rw [decide_eq_false (by omega)]; exact devOk_i_10_no n p (by omega) (by omega) c w
  · rw [DevP.ok_int]
    by_cases a : n < (-32768)
    · rw [decide_eq_false (by omega)]; exact devOk_i_11_lo n p a w
    by_cases b : 32768 ≤ n
    · rw [decide_eq_false (by omega)]; exact devOk_i_11_hi n p b w
    by_cases c : p = 0
    · rw [decide_eq_true (by omega)]; exact devOk_i_11_ok n p (by omega) (by omega) c w
    · rw [decide_eq_false (by omega)]; exact devOk_i_11_no n p (by omega) (by omega) c w
  · rw [DevP.ok_dec]
    by_cases a : n < -999999999
    · rw [decide_eq_false (by omega)]; exact devOk_i_12_a n p a w
    by_cases b : 999999999 < n
    · rw [decide_eq_false (by omega)]; exact devOk_i_12_b n p b w
    by_cases c : p < 1
    · rw [decide_eq_false (by omega)]; exact devOk_i_12_c n p (by omega) (by omega) c w
    by_cases d : 6 < p
    · rw [decide_eq_false (by omega)]; exact devOk_i_12_d n p (by omega) (by omega) d w
    by_cases e : p = 1
    · rw [decide_eq_true ⟨by omega, by omega, by omega, by omega, .inl e⟩]; exact devOk_i_12_e n p (by omega) (by omega) e w
    by_cases g : n.tmod 10 = 0
    · rw [decide_eq_false (fun h => h.2.2.2.2.elim e fun q => q g)]; exact devOk_i_12_g n p (by omega) (by omega) (by omega) (by omega) g w
    · rw [decide_eq_true ⟨by omega, by omega, by omega, by omega, .inr g⟩]; exact devOk_i_12_f n p (by omega) (by omega) (by omega) (by omega) g w
  · rw [DevP.ok_word]
    by_cases a : n < 0
    · rw [decide_eq_false (by omega)]; exact devOk_i_13_lo n p a w
    by_cases b : 4 ≤ n
    · rw [decide_eq_false (by omega)]; exact devOk_i_13_hi n p b w
    by_cases c : p = 0
    · rw [decide_eq_true (by omega)]; exact devOk_i_13_ok n p (by omega) (by omega) c w
    · rw [decide_eq_false (by omega)]; exact devOk_i_13_no n p (by omega) (by omega) c w
end Go.Proofs.YtmlpobecilbknaaDoor
