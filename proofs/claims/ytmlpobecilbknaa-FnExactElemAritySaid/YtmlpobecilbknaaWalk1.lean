/- The walks of the laws FnExactDevSize, FnExactDevLetter, FnExactElemArity: each law returns true and changes nothing that was there. -/
import Derived.Test.YtmlpobecilbknaaRows
import Derived.WalkKit
import Derived.WalkSpells
import Derived.WalkLawsBesides
import Derived.OpenShut
namespace Go.Proofs.Ytmlpobecilbknaa
open Go.RowKit
set_option linter.unusedVariables false

theorem dsz_ix0 (w : World) : (Instr.index 42 (.agg #[.int .i64 32, .int .i64 32, .int .i64 64, .int .i64 16, .int .i64 32, .int .i64 5, .int .i64 16, .int .i64 16, .int .i64 32, .int .i64 16]) (.int .i64 0)).run Try.prog w = .ok (.int .i64 32) w := by kernel_rfl
theorem dsz_ix1 (w : World) : (Instr.index 42 (.agg #[.int .i64 32, .int .i64 32, .int .i64 64, .int .i64 16, .int .i64 32, .int .i64 5, .int .i64 16, .int .i64 16, .int .i64 32, .int .i64 16]) (.int .i64 1)).run Try.prog w = .ok (.int .i64 32) w := by kernel_rfl
theorem dsz_ix2 (w : World) : (Instr.index 42 (.agg #[.int .i64 32, .int .i64 32, .int .i64 64, .int .i64 16, .int .i64 32, .int .i64 5, .int .i64 16, .int .i64 16, .int .i64 32, .int .i64 16]) (.int .i64 2)).run Try.prog w = .ok (.int .i64 64) w := by kernel_rfl
theorem dsz_ix3 (w : World) : (Instr.index 42 (.agg #[.int .i64 32, .int .i64 32, .int .i64 64, .int .i64 16, .int .i64 32, .int .i64 5, .int .i64 16, .int .i64 16, .int .i64 32, .int .i64 16]) (.int .i64 3)).run Try.prog w = .ok (.int .i64 16) w := by kernel_rfl
theorem dsz_ix4 (w : World) : (Instr.index 42 (.agg #[.int .i64 32, .int .i64 32, .int .i64 64, .int .i64 16, .int .i64 32, .int .i64 5, .int .i64 16, .int .i64 16, .int .i64 32, .int .i64 16]) (.int .i64 4)).run Try.prog w = .ok (.int .i64 32) w := by kernel_rfl
theorem dsz_ix5 (w : World) : (Instr.index 42 (.agg #[.int .i64 32, .int .i64 32, .int .i64 64, .int .i64 16, .int .i64 32, .int .i64 5, .int .i64 16, .int .i64 16, .int .i64 32, .int .i64 16]) (.int .i64 5)).run Try.prog w = .ok (.int .i64 5) w := by kernel_rfl
theorem dsz_ix6 (w : World) : (Instr.index 42 (.agg #[.int .i64 32, .int .i64 32, .int .i64 64, .int .i64 16, .int .i64 32, .int .i64 5, .int .i64 16, .int .i64 16, .int .i64 32, .int .i64 16]) (.int .i64 6)).run Try.prog w = .ok (.int .i64 16) w := by kernel_rfl
theorem dsz_ix7 (w : World) : (Instr.index 42 (.agg #[.int .i64 32, .int .i64 32, .int .i64 64, .int .i64 16, .int .i64 32, .int .i64 5, .int .i64 16, .int .i64 16, .int .i64 32, .int .i64 16]) (.int .i64 7)).run Try.prog w = .ok (.int .i64 16) w := by kernel_rfl
theorem dsz_ix8 (w : World) : (Instr.index 42 (.agg #[.int .i64 32, .int .i64 32, .int .i64 64, .int .i64 16, .int .i64 32, .int .i64 5, .int .i64 16, .int .i64 16, .int .i64 32, .int .i64 16]) (.int .i64 8)).run Try.prog w = .ok (.int .i64 32) w := by kernel_rfl
theorem dsz_ix9 (w : World) : (Instr.index 42 (.agg #[.int .i64 32, .int .i64 32, .int .i64 64, .int .i64 16, .int .i64 32, .int .i64 5, .int .i64 16, .int .i64 16, .int .i64 32, .int .i64 16]) (.int .i64 9)).run Try.prog w = .ok (.int .i64 16) w := by kernel_rfl
set_option maxRecDepth 100000 in
set_option maxHeartbeats 400000 in
theorem FnExactDevSize_low (a0 : Int) (h0 : a0 < 1) (w : World) : Calls Try.prog 3 #[.int .i64 a0] w fun e w' => e = .returned (.bool true) ∧ Below w.heap.size w w' := by
  have : decide ((1 : Int) ≤ a0) = false := by simp; omega
  go_enter Try.func3, Try.ntmps3
  go_wp2
  go_ret
  exact ⟨rfl, by repeat (first | exact Below.refl _ _ | refine Below.alloc ?_ (by simp) _ | refine Below.drew ?_)⟩
set_option maxRecDepth 100000 in
set_option maxHeartbeats 400000 in
theorem FnExactDevSize_high (a0 : Int) (h0 : 10 < a0) (w : World) : Calls Try.prog 3 #[.int .i64 a0] w fun e w' => e = .returned (.bool true) ∧ Below w.heap.size w w' := by
  have : decide ((1 : Int) ≤ a0) = true := by simp; omega
  have : decide (a0 ≤ (10 : Int)) = false := by simp; omega
  go_enter Try.func3, Try.ntmps3
  go_wp2
  go_ret
  exact ⟨rfl, by repeat (first | exact Below.refl _ _ | refine Below.alloc ?_ (by simp) _ | refine Below.drew ?_)⟩
set_option maxRecDepth 100000 in
set_option maxHeartbeats 400000 in
theorem FnExactDevSize_at1 (w : World) : Calls Try.prog 3 #[.int .i64 1] w fun e w' => e = .returned (.bool true) ∧ Below w.heap.size w w' := by
  have ix := dsz_ix0
  go_enter Try.func3, Try.ntmps3
  go_wp2
  go_ret
  exact ⟨rfl, by repeat (first | exact Below.refl _ _ | refine Below.alloc ?_ (by simp) _ | refine Below.drew ?_)⟩
set_option maxRecDepth 100000 in
set_option maxHeartbeats 400000 in
theorem FnExactDevSize_at2 (w : World) : Calls Try.prog 3 #[.int .i64 2] w fun e w' => e = .returned (.bool true) ∧ Below w.heap.size w w' := by
  have ix := dsz_ix1
  go_enter Try.func3, Try.ntmps3
  go_wp2
  go_ret
  exact ⟨rfl, by repeat (first | exact Below.refl _ _ | refine Below.alloc ?_ (by simp) _ | refine Below.drew ?_)⟩
set_option maxRecDepth 100000 in
set_option maxHeartbeats 400000 in
theorem FnExactDevSize_at3 (w : World) : Calls Try.prog 3 #[.int .i64 3] w fun e w' => e = .returned (.bool true) ∧ Below w.heap.size w w' := by
  have ix := dsz_ix2
  go_enter Try.func3, Try.ntmps3
  go_wp2
  go_ret
  exact ⟨rfl, by repeat (first | exact Below.refl _ _ | refine Below.alloc ?_ (by simp) _ | refine Below.drew ?_)⟩
set_option maxRecDepth 100000 in
set_option maxHeartbeats 400000 in
theorem FnExactDevSize_at4 (w : World) : Calls Try.prog 3 #[.int .i64 4] w fun e w' => e = .returned (.bool true) ∧ Below w.heap.size w w' := by
  have ix := dsz_ix3
  go_enter Try.func3, Try.ntmps3
  go_wp2
  go_ret
  exact ⟨rfl, by repeat (first | exact Below.refl _ _ | refine Below.alloc ?_ (by simp) _ | refine Below.drew ?_)⟩
set_option maxRecDepth 100000 in
set_option maxHeartbeats 400000 in
theorem FnExactDevSize_at5 (w : World) : Calls Try.prog 3 #[.int .i64 5] w fun e w' => e = .returned (.bool true) ∧ Below w.heap.size w w' := by
  have ix := dsz_ix4
  go_enter Try.func3, Try.ntmps3
  go_wp2
  go_ret
  exact ⟨rfl, by repeat (first | exact Below.refl _ _ | refine Below.alloc ?_ (by simp) _ | refine Below.drew ?_)⟩
set_option maxRecDepth 100000 in
set_option maxHeartbeats 400000 in
theorem FnExactDevSize_at6 (w : World) : Calls Try.prog 3 #[.int .i64 6] w fun e w' => e = .returned (.bool true) ∧ Below w.heap.size w w' := by
  have ix := dsz_ix5
  go_enter Try.func3, Try.ntmps3
  go_wp2
  go_ret
  exact ⟨rfl, by repeat (first | exact Below.refl _ _ | refine Below.alloc ?_ (by simp) _ | refine Below.drew ?_)⟩
set_option maxRecDepth 100000 in
set_option maxHeartbeats 400000 in
theorem FnExactDevSize_at7 (w : World) : Calls Try.prog 3 #[.int .i64 7] w fun e w' => e = .returned (.bool true) ∧ Below w.heap.size w w' := by
  have ix := dsz_ix6
  go_enter Try.func3, Try.ntmps3
  go_wp2
  go_ret
  exact ⟨rfl, by repeat (first | exact Below.refl _ _ | refine Below.alloc ?_ (by simp) _ | refine Below.drew ?_)⟩
set_option maxRecDepth 100000 in
set_option maxHeartbeats 400000 in
theorem FnExactDevSize_at8 (w : World) : Calls Try.prog 3 #[.int .i64 8] w fun e w' => e = .returned (.bool true) ∧ Below w.heap.size w w' := by
  have ix := dsz_ix7
  go_enter Try.func3, Try.ntmps3
  go_wp2
  go_ret
  exact ⟨rfl, by repeat (first | exact Below.refl _ _ | refine Below.alloc ?_ (by simp) _ | refine Below.drew ?_)⟩
set_option maxRecDepth 100000 in
set_option maxHeartbeats 400000 in
theorem FnExactDevSize_at9 (w : World) : Calls Try.prog 3 #[.int .i64 9] w fun e w' => e = .returned (.bool true) ∧ Below w.heap.size w w' := by
  have ix := dsz_ix8
  go_enter Try.func3, Try.ntmps3
  go_wp2
  go_ret
  exact ⟨rfl, by repeat (first | exact Below.refl _ _ | refine Below.alloc ?_ (by simp) _ | refine Below.drew ?_)⟩
set_option maxRecDepth 100000 in
set_option maxHeartbeats 400000 in
theorem FnExactDevSize_at10 (w : World) : Calls Try.prog 3 #[.int .i64 10] w fun e w' => e = .returned (.bool true) ∧ Below w.heap.size w w' := by
  have ix := dsz_ix9
  go_enter Try.func3, Try.ntmps3
  go_wp2
  go_ret
  exact ⟨rfl, by repeat (first | exact Below.refl _ _ | refine Below.alloc ?_ (by simp) _ | refine Below.drew ?_)⟩
theorem FnExactDevSize_walk (a0 : Int) (w0 : (Lit.int .i64 a0).wf = true) (w : World) : Calls Try.prog 3 #[.int .i64 a0] w fun e w' => e = .returned (.bool true) ∧ Below w.heap.size w w' := by
  by_cases low : a0 < 1
  · exact FnExactDevSize_low a0 low w
  by_cases high : 10 < a0
  · exact FnExactDevSize_high a0 high w
  have h3 : a0 = 1 ∨ a0 = 2 ∨ a0 = 3 ∨ a0 = 4 ∨ a0 = 5 ∨ a0 = 6 ∨ a0 = 7 ∨ a0 = 8 ∨ a0 = 9 ∨ a0 = 10 := by omega
  rcases h3 with rfl | rfl | rfl | rfl | rfl | rfl | rfl | rfl | rfl | rfl
  · exact FnExactDevSize_at1 w
  · exact FnExactDevSize_at2 w
  · exact FnExactDevSize_at3 w
  · exact FnExactDevSize_at4 w
  · exact FnExactDevSize_at5 w
  · exact FnExactDevSize_at6 w
  · exact FnExactDevSize_at7 w
  · exact FnExactDevSize_at8 w
  · exact FnExactDevSize_at9 w
  · exact FnExactDevSize_at10 w
set_option maxRecDepth 100000 in
set_option maxHeartbeats 400000 in
theorem FnExactDevLetter_low (a0 : Int) (h0 : a0 < 1) (w : World) : Calls Try.prog 5 #[.int .i64 a0] w fun e w' => e = .returned (.bool true) ∧ Below w.heap.size w w' := by
  have : decide ((1 : Int) ≤ a0) = false := by simp; omega
  go_enter Try.func5, Try.ntmps5
  go_wp2
  go_ret
  exact ⟨rfl, by repeat (first | exact Below.refl _ _ | refine Below.alloc ?_ (by simp) _ | refine Below.drew ?_)⟩
set_option maxRecDepth 100000 in
set_option maxHeartbeats 400000 in
theorem FnExactDevLetter_high (a0 : Int) (h0 : 10 < a0) (w : World) : Calls Try.prog 5 #[.int .i64 a0] w fun e w' => e = .returned (.bool true) ∧ Below w.heap.size w w' := by
  have : decide ((1 : Int) ≤ a0) = true := by simp; omega
  have : decide (a0 ≤ (10 : Int)) = false := by simp; omega
  go_enter Try.func5, Try.ntmps5
  go_wp2
  go_ret
  exact ⟨rfl, by repeat (first | exact Below.refl _ _ | refine Below.alloc ?_ (by simp) _ | refine Below.drew ?_)⟩
set_option maxRecDepth 100000 in
set_option maxHeartbeats 400000 in
theorem FnExactDevLetter_at1 (w : World) : Calls Try.prog 5 #[.int .i64 1] w fun e w' => e = .returned (.bool true) ∧ Below w.heap.size w w' := by
  go_enter Try.func5, Try.ntmps5
  go_wp2
  go_ret
  exact ⟨rfl, by repeat (first | exact Below.refl _ _ | refine Below.alloc ?_ (by simp) _ | refine Below.drew ?_)⟩
set_option maxRecDepth 100000 in
set_option maxHeartbeats 400000 in
theorem FnExactDevLetter_at2 (w : World) : Calls Try.prog 5 #[.int .i64 2] w fun e w' => e = .returned (.bool true) ∧ Below w.heap.size w w' := by
  go_enter Try.func5, Try.ntmps5
  go_wp2
  go_ret
  exact ⟨rfl, by repeat (first | exact Below.refl _ _ | refine Below.alloc ?_ (by simp) _ | refine Below.drew ?_)⟩
set_option maxRecDepth 100000 in
set_option maxHeartbeats 400000 in
theorem FnExactDevLetter_at3 (w : World) : Calls Try.prog 5 #[.int .i64 3] w fun e w' => e = .returned (.bool true) ∧ Below w.heap.size w w' := by
  go_enter Try.func5, Try.ntmps5
  go_wp2
  go_ret
  exact ⟨rfl, by repeat (first | exact Below.refl _ _ | refine Below.alloc ?_ (by simp) _ | refine Below.drew ?_)⟩
set_option maxRecDepth 100000 in
set_option maxHeartbeats 400000 in
theorem FnExactDevLetter_at4 (w : World) : Calls Try.prog 5 #[.int .i64 4] w fun e w' => e = .returned (.bool true) ∧ Below w.heap.size w w' := by
  go_enter Try.func5, Try.ntmps5
  go_wp2
  go_ret
  exact ⟨rfl, by repeat (first | exact Below.refl _ _ | refine Below.alloc ?_ (by simp) _ | refine Below.drew ?_)⟩
set_option maxRecDepth 100000 in
set_option maxHeartbeats 400000 in
theorem FnExactDevLetter_at5 (w : World) : Calls Try.prog 5 #[.int .i64 5] w fun e w' => e = .returned (.bool true) ∧ Below w.heap.size w w' := by
  go_enter Try.func5, Try.ntmps5
  go_wp2
  go_ret
  exact ⟨rfl, by repeat (first | exact Below.refl _ _ | refine Below.alloc ?_ (by simp) _ | refine Below.drew ?_)⟩
set_option maxRecDepth 100000 in
set_option maxHeartbeats 400000 in
theorem FnExactDevLetter_at6 (w : World) : Calls Try.prog 5 #[.int .i64 6] w fun e w' => e = .returned (.bool true) ∧ Below w.heap.size w w' := by
  go_enter Try.func5, Try.ntmps5
  go_wp2
  go_ret
  exact ⟨rfl, by repeat (first | exact Below.refl _ _ | refine Below.alloc ?_ (by simp) _ | refine Below.drew ?_)⟩
set_option maxRecDepth 100000 in
set_option maxHeartbeats 400000 in
theorem FnExactDevLetter_at7 (w : World) : Calls Try.prog 5 #[.int .i64 7] w fun e w' => e = .returned (.bool true) ∧ Below w.heap.size w w' := by
  go_enter Try.func5, Try.ntmps5
  go_wp2
  go_ret
  exact ⟨rfl, by repeat (first | exact Below.refl _ _ | refine Below.alloc ?_ (by simp) _ | refine Below.drew ?_)⟩
set_option maxRecDepth 100000 in
set_option maxHeartbeats 400000 in
theorem FnExactDevLetter_at8 (w : World) : Calls Try.prog 5 #[.int .i64 8] w fun e w' => e = .returned (.bool true) ∧ Below w.heap.size w w' := by
  go_enter Try.func5, Try.ntmps5
  go_wp2
  go_ret
  exact ⟨rfl, by repeat (first | exact Below.refl _ _ | refine Below.alloc ?_ (by simp) _ | refine Below.drew ?_)⟩
set_option maxRecDepth 100000 in
set_option maxHeartbeats 400000 in
theorem FnExactDevLetter_at9 (w : World) : Calls Try.prog 5 #[.int .i64 9] w fun e w' => e = .returned (.bool true) ∧ Below w.heap.size w w' := by
  go_enter Try.func5, Try.ntmps5
  go_wp2
  go_ret
  exact ⟨rfl, by repeat (first | exact Below.refl _ _ | refine Below.alloc ?_ (by simp) _ | refine Below.drew ?_)⟩
set_option maxRecDepth 100000 in
set_option maxHeartbeats 400000 in
theorem FnExactDevLetter_at10 (w : World) : Calls Try.prog 5 #[.int .i64 10] w fun e w' => e = .returned (.bool true) ∧ Below w.heap.size w w' := by
  go_enter Try.func5, Try.ntmps5
  go_wp2
  go_ret
  exact ⟨rfl, by repeat (first | exact Below.refl _ _ | refine Below.alloc ?_ (by simp) _ | refine Below.drew ?_)⟩
theorem FnExactDevLetter_walk (a0 : Int) (w0 : (Lit.int .i64 a0).wf = true) (w : World) : Calls Try.prog 5 #[.int .i64 a0] w fun e w' => e = .returned (.bool true) ∧ Below w.heap.size w w' := by
  by_cases low : a0 < 1
  · exact FnExactDevLetter_low a0 low w
  by_cases high : 10 < a0
  · exact FnExactDevLetter_high a0 high w
  have h3 : a0 = 1 ∨ a0 = 2 ∨ a0 = 3 ∨ a0 = 4 ∨ a0 = 5 ∨ a0 = 6 ∨ a0 = 7 ∨ a0 = 8 ∨ a0 = 9 ∨ a0 = 10 := by omega
  rcases h3 with rfl | rfl | rfl | rfl | rfl | rfl | rfl | rfl | rfl | rfl
  · exact FnExactDevLetter_at1 w
  · exact FnExactDevLetter_at2 w
  · exact FnExactDevLetter_at3 w
  · exact FnExactDevLetter_at4 w
  · exact FnExactDevLetter_at5 w
  · exact FnExactDevLetter_at6 w
  · exact FnExactDevLetter_at7 w
  · exact FnExactDevLetter_at8 w
  · exact FnExactDevLetter_at9 w
  · exact FnExactDevLetter_at10 w
theorem ar1_ix0 (w : World) : (Instr.index 42 (.agg #[.int .i64 1, .int .i64 1, .int .i64 2, .int .i64 2, .int .i64 2, .int .i64 2, .int .i64 2, .int .i64 2, .int .i64 2, .int .i64 2]) (.int .i64 0)).run Try.prog w = .ok (.int .i64 1) w := by kernel_rfl
theorem ar1_ix1 (w : World) : (Instr.index 42 (.agg #[.int .i64 1, .int .i64 1, .int .i64 2, .int .i64 2, .int .i64 2, .int .i64 2, .int .i64 2, .int .i64 2, .int .i64 2, .int .i64 2]) (.int .i64 1)).run Try.prog w = .ok (.int .i64 1) w := by kernel_rfl
theorem ar1_ix2 (w : World) : (Instr.index 42 (.agg #[.int .i64 1, .int .i64 1, .int .i64 2, .int .i64 2, .int .i64 2, .int .i64 2, .int .i64 2, .int .i64 2, .int .i64 2, .int .i64 2]) (.int .i64 2)).run Try.prog w = .ok (.int .i64 2) w := by kernel_rfl
theorem ar1_ix3 (w : World) : (Instr.index 42 (.agg #[.int .i64 1, .int .i64 1, .int .i64 2, .int .i64 2, .int .i64 2, .int .i64 2, .int .i64 2, .int .i64 2, .int .i64 2, .int .i64 2]) (.int .i64 3)).run Try.prog w = .ok (.int .i64 2) w := by kernel_rfl
theorem ar1_ix4 (w : World) : (Instr.index 42 (.agg #[.int .i64 1, .int .i64 1, .int .i64 2, .int .i64 2, .int .i64 2, .int .i64 2, .int .i64 2, .int .i64 2, .int .i64 2, .int .i64 2]) (.int .i64 4)).run Try.prog w = .ok (.int .i64 2) w := by kernel_rfl
theorem ar1_ix5 (w : World) : (Instr.index 42 (.agg #[.int .i64 1, .int .i64 1, .int .i64 2, .int .i64 2, .int .i64 2, .int .i64 2, .int .i64 2, .int .i64 2, .int .i64 2, .int .i64 2]) (.int .i64 5)).run Try.prog w = .ok (.int .i64 2) w := by kernel_rfl
theorem ar1_ix6 (w : World) : (Instr.index 42 (.agg #[.int .i64 1, .int .i64 1, .int .i64 2, .int .i64 2, .int .i64 2, .int .i64 2, .int .i64 2, .int .i64 2, .int .i64 2, .int .i64 2]) (.int .i64 6)).run Try.prog w = .ok (.int .i64 2) w := by kernel_rfl
theorem ar1_ix7 (w : World) : (Instr.index 42 (.agg #[.int .i64 1, .int .i64 1, .int .i64 2, .int .i64 2, .int .i64 2, .int .i64 2, .int .i64 2, .int .i64 2, .int .i64 2, .int .i64 2]) (.int .i64 7)).run Try.prog w = .ok (.int .i64 2) w := by kernel_rfl
theorem ar1_ix8 (w : World) : (Instr.index 42 (.agg #[.int .i64 1, .int .i64 1, .int .i64 2, .int .i64 2, .int .i64 2, .int .i64 2, .int .i64 2, .int .i64 2, .int .i64 2, .int .i64 2]) (.int .i64 8)).run Try.prog w = .ok (.int .i64 2) w := by kernel_rfl
theorem ar1_ix9 (w : World) : (Instr.index 42 (.agg #[.int .i64 1, .int .i64 1, .int .i64 2, .int .i64 2, .int .i64 2, .int .i64 2, .int .i64 2, .int .i64 2, .int .i64 2, .int .i64 2]) (.int .i64 9)).run Try.prog w = .ok (.int .i64 2) w := by kernel_rfl
theorem ar2_ix0 (w : World) : (Instr.index 43 (.agg #[.int .i64 1, .int .i64 1, .int .i64 1, .int .i64 2, .int .i64 1, .int .i64 2, .int .i64 2, .int .i64 2, .int .i64 2, .int .i64 2, .int .i64 3, .int .i64 3, .int .i64 3, .int .i64 3, .int .i64 3, .int .i64 2, .int .i64 2]) (.int .i64 0)).run Try.prog w = .ok (.int .i64 1) w := by kernel_rfl
theorem ar2_ix1 (w : World) : (Instr.index 43 (.agg #[.int .i64 1, .int .i64 1, .int .i64 1, .int .i64 2, .int .i64 1, .int .i64 2, .int .i64 2, .int .i64 2, .int .i64 2, .int .i64 2, .int .i64 3, .int .i64 3, .int .i64 3, .int .i64 3, .int .i64 3, .int .i64 2, .int .i64 2]) (.int .i64 1)).run Try.prog w = .ok (.int .i64 1) w := by kernel_rfl
theorem ar2_ix2 (w : World) : (Instr.index 43 (.agg #[.int .i64 1, .int .i64 1, .int .i64 1, .int .i64 2, .int .i64 1, .int .i64 2, .int .i64 2, .int .i64 2, .int .i64 2, .int .i64 2, .int .i64 3, .int .i64 3, .int .i64 3, .int .i64 3, .int .i64 3, .int .i64 2, .int .i64 2]) (.int .i64 2)).run Try.prog w = .ok (.int .i64 1) w := by kernel_rfl
theorem ar2_ix3 (w : World) : (Instr.index 43 (.agg #[.int .i64 1, .int .i64 1, .int .i64 1, .int .i64 2, .int .i64 1, .int .i64 2, .int .i64 2, .int .i64 2, .int .i64 2, .int .i64 2, .int .i64 3, .int .i64 3, .int .i64 3, .int .i64 3, .int .i64 3, .int .i64 2, .int .i64 2]) (.int .i64 3)).run Try.prog w = .ok (.int .i64 2) w := by kernel_rfl
theorem ar2_ix4 (w : World) : (Instr.index 43 (.agg #[.int .i64 1, .int .i64 1, .int .i64 1, .int .i64 2, .int .i64 1, .int .i64 2, .int .i64 2, .int .i64 2, .int .i64 2, .int .i64 2, .int .i64 3, .int .i64 3, .int .i64 3, .int .i64 3, .int .i64 3, .int .i64 2, .int .i64 2]) (.int .i64 4)).run Try.prog w = .ok (.int .i64 1) w := by kernel_rfl
theorem ar2_ix5 (w : World) : (Instr.index 43 (.agg #[.int .i64 1, .int .i64 1, .int .i64 1, .int .i64 2, .int .i64 1, .int .i64 2, .int .i64 2, .int .i64 2, .int .i64 2, .int .i64 2, .int .i64 3, .int .i64 3, .int .i64 3, .int .i64 3, .int .i64 3, .int .i64 2, .int .i64 2]) (.int .i64 5)).run Try.prog w = .ok (.int .i64 2) w := by kernel_rfl
theorem ar2_ix6 (w : World) : (Instr.index 43 (.agg #[.int .i64 1, .int .i64 1, .int .i64 1, .int .i64 2, .int .i64 1, .int .i64 2, .int .i64 2, .int .i64 2, .int .i64 2, .int .i64 2, .int .i64 3, .int .i64 3, .int .i64 3, .int .i64 3, .int .i64 3, .int .i64 2, .int .i64 2]) (.int .i64 6)).run Try.prog w = .ok (.int .i64 2) w := by kernel_rfl
theorem ar2_ix7 (w : World) : (Instr.index 43 (.agg #[.int .i64 1, .int .i64 1, .int .i64 1, .int .i64 2, .int .i64 1, .int .i64 2, .int .i64 2, .int .i64 2, .int .i64 2, .int .i64 2, .int .i64 3, .int .i64 3, .int .i64 3, .int .i64 3, .int .i64 3, .int .i64 2, .int .i64 2]) (.int .i64 7)).run Try.prog w = .ok (.int .i64 2) w := by kernel_rfl
theorem ar2_ix8 (w : World) : (Instr.index 43 (.agg #[.int .i64 1, .int .i64 1, .int .i64 1, .int .i64 2, .int .i64 1, .int .i64 2, .int .i64 2, .int .i64 2, .int .i64 2, .int .i64 2, .int .i64 3, .int .i64 3, .int .i64 3, .int .i64 3, .int .i64 3, .int .i64 2, .int .i64 2]) (.int .i64 8)).run Try.prog w = .ok (.int .i64 2) w := by kernel_rfl
theorem ar2_ix9 (w : World) : (Instr.index 43 (.agg #[.int .i64 1, .int .i64 1, .int .i64 1, .int .i64 2, .int .i64 1, .int .i64 2, .int .i64 2, .int .i64 2, .int .i64 2, .int .i64 2, .int .i64 3, .int .i64 3, .int .i64 3, .int .i64 3, .int .i64 3, .int .i64 2, .int .i64 2]) (.int .i64 9)).run Try.prog w = .ok (.int .i64 2) w := by kernel_rfl
theorem ar2_ix10 (w : World) : (Instr.index 43 (.agg #[.int .i64 1, .int .i64 1, .int .i64 1, .int .i64 2, .int .i64 1, .int .i64 2, .int .i64 2, .int .i64 2, .int .i64 2, .int .i64 2, .int .i64 3, .int .i64 3, .int .i64 3, .int .i64 3, .int .i64 3, .int .i64 2, .int .i64 2]) (.int .i64 10)).run Try.prog w = .ok (.int .i64 3) w := by kernel_rfl
theorem ar2_ix11 (w : World) : (Instr.index 43 (.agg #[.int .i64 1, .int .i64 1, .int .i64 1, .int .i64 2, .int .i64 1, .int .i64 2, .int .i64 2, .int .i64 2, .int .i64 2, .int .i64 2, .int .i64 3, .int .i64 3, .int .i64 3, .int .i64 3, .int .i64 3, .int .i64 2, .int .i64 2]) (.int .i64 11)).run Try.prog w = .ok (.int .i64 3) w := by kernel_rfl
theorem ar2_ix12 (w : World) : (Instr.index 43 (.agg #[.int .i64 1, .int .i64 1, .int .i64 1, .int .i64 2, .int .i64 1, .int .i64 2, .int .i64 2, .int .i64 2, .int .i64 2, .int .i64 2, .int .i64 3, .int .i64 3, .int .i64 3, .int .i64 3, .int .i64 3, .int .i64 2, .int .i64 2]) (.int .i64 12)).run Try.prog w = .ok (.int .i64 3) w := by kernel_rfl
theorem ar2_ix13 (w : World) : (Instr.index 43 (.agg #[.int .i64 1, .int .i64 1, .int .i64 1, .int .i64 2, .int .i64 1, .int .i64 2, .int .i64 2, .int .i64 2, .int .i64 2, .int .i64 2, .int .i64 3, .int .i64 3, .int .i64 3, .int .i64 3, .int .i64 3, .int .i64 2, .int .i64 2]) (.int .i64 13)).run Try.prog w = .ok (.int .i64 3) w := by kernel_rfl
theorem ar2_ix14 (w : World) : (Instr.index 43 (.agg #[.int .i64 1, .int .i64 1, .int .i64 1, .int .i64 2, .int .i64 1, .int .i64 2, .int .i64 2, .int .i64 2, .int .i64 2, .int .i64 2, .int .i64 3, .int .i64 3, .int .i64 3, .int .i64 3, .int .i64 3, .int .i64 2, .int .i64 2]) (.int .i64 14)).run Try.prog w = .ok (.int .i64 3) w := by kernel_rfl
theorem ar2_ix15 (w : World) : (Instr.index 43 (.agg #[.int .i64 1, .int .i64 1, .int .i64 1, .int .i64 2, .int .i64 1, .int .i64 2, .int .i64 2, .int .i64 2, .int .i64 2, .int .i64 2, .int .i64 3, .int .i64 3, .int .i64 3, .int .i64 3, .int .i64 3, .int .i64 2, .int .i64 2]) (.int .i64 15)).run Try.prog w = .ok (.int .i64 2) w := by kernel_rfl
theorem ar2_ix16 (w : World) : (Instr.index 43 (.agg #[.int .i64 1, .int .i64 1, .int .i64 1, .int .i64 2, .int .i64 1, .int .i64 2, .int .i64 2, .int .i64 2, .int .i64 2, .int .i64 2, .int .i64 3, .int .i64 3, .int .i64 3, .int .i64 3, .int .i64 3, .int .i64 2, .int .i64 2]) (.int .i64 16)).run Try.prog w = .ok (.int .i64 2) w := by kernel_rfl
set_option maxRecDepth 100000 in
set_option maxHeartbeats 400000 in
theorem FnExactElemArity_low (a0 : Int) (h0 : a0 < 1) (w : World) : Calls Try.prog 4 #[.int .i64 a0] w fun e w' => e = .returned (.bool true) ∧ Below w.heap.size w w' := by
  have : decide ((1 : Int) ≤ a0) = false := by simp; omega
  have : decide (a0 ≤ (10 : Int)) = true := by simp; omega
  have : decide ((21 : Int) ≤ a0) = false := by simp; omega
  have : decide (a0 ≤ (37 : Int)) = true := by simp; omega
  go_enter Try.func4, Try.ntmps4
  go_wp2
  go_ret
  exact ⟨rfl, by repeat (first | exact Below.refl _ _ | refine Below.alloc ?_ (by simp) _ | refine Below.drew ?_)⟩
set_option maxRecDepth 100000 in
set_option maxHeartbeats 400000 in
theorem FnExactElemArity_mid (a0 : Int) (h0 : 10 < a0) (h1 : a0 < 21) (w : World) : Calls Try.prog 4 #[.int .i64 a0] w fun e w' => e = .returned (.bool true) ∧ Below w.heap.size w w' := by
  have : decide ((1 : Int) ≤ a0) = true := by simp; omega
  have : decide (a0 ≤ (10 : Int)) = false := by simp; omega
  have : decide ((21 : Int) ≤ a0) = false := by simp; omega
  have : decide (a0 ≤ (37 : Int)) = true := by simp; omega
  go_enter Try.func4, Try.ntmps4
  go_wp2
  go_ret
  exact ⟨rfl, by repeat (first | exact Below.refl _ _ | refine Below.alloc ?_ (by simp) _ | refine Below.drew ?_)⟩
set_option maxRecDepth 100000 in
set_option maxHeartbeats 400000 in
theorem FnExactElemArity_high (a0 : Int) (h0 : 37 < a0) (w : World) : Calls Try.prog 4 #[.int .i64 a0] w fun e w' => e = .returned (.bool true) ∧ Below w.heap.size w w' := by
  have : decide ((1 : Int) ≤ a0) = true := by simp; omega
  have : decide (a0 ≤ (10 : Int)) = false := by simp; omega
  have : decide ((21 : Int) ≤ a0) = true := by simp; omega
  have : decide (a0 ≤ (37 : Int)) = false := by simp; omega
  go_enter Try.func4, Try.ntmps4
  go_wp2
  go_ret
  exact ⟨rfl, by repeat (first | exact Below.refl _ _ | refine Below.alloc ?_ (by simp) _ | refine Below.drew ?_)⟩
set_option maxRecDepth 100000 in
set_option maxHeartbeats 400000 in
theorem FnExactElemArity_at1 (w : World) : Calls Try.prog 4 #[.int .i64 1] w fun e w' => e = .returned (.bool true) ∧ Below w.heap.size w w' := by
  have ix := ar1_ix0
  go_enter Try.func4, Try.ntmps4
  go_wp2
  go_ret
  exact ⟨rfl, by repeat (first | exact Below.refl _ _ | refine Below.alloc ?_ (by simp) _ | refine Below.drew ?_)⟩
set_option maxRecDepth 100000 in
set_option maxHeartbeats 400000 in
theorem FnExactElemArity_at2 (w : World) : Calls Try.prog 4 #[.int .i64 2] w fun e w' => e = .returned (.bool true) ∧ Below w.heap.size w w' := by
  have ix := ar1_ix1
  go_enter Try.func4, Try.ntmps4
  go_wp2
  go_ret
  exact ⟨rfl, by repeat (first | exact Below.refl _ _ | refine Below.alloc ?_ (by simp) _ | refine Below.drew ?_)⟩
set_option maxRecDepth 100000 in
set_option maxHeartbeats 400000 in
theorem FnExactElemArity_at3 (w : World) : Calls Try.prog 4 #[.int .i64 3] w fun e w' => e = .returned (.bool true) ∧ Below w.heap.size w w' := by
  have ix := ar1_ix2
  go_enter Try.func4, Try.ntmps4
  go_wp2
  go_ret
  exact ⟨rfl, by repeat (first | exact Below.refl _ _ | refine Below.alloc ?_ (by simp) _ | refine Below.drew ?_)⟩
set_option maxRecDepth 100000 in
set_option maxHeartbeats 400000 in
theorem FnExactElemArity_at4 (w : World) : Calls Try.prog 4 #[.int .i64 4] w fun e w' => e = .returned (.bool true) ∧ Below w.heap.size w w' := by
  have ix := ar1_ix3
  go_enter Try.func4, Try.ntmps4
  go_wp2
  go_ret
  exact ⟨rfl, by repeat (first | exact Below.refl _ _ | refine Below.alloc ?_ (by simp) _ | refine Below.drew ?_)⟩
set_option maxRecDepth 100000 in
set_option maxHeartbeats 400000 in
theorem FnExactElemArity_at5 (w : World) : Calls Try.prog 4 #[.int .i64 5] w fun e w' => e = .returned (.bool true) ∧ Below w.heap.size w w' := by
  have ix := ar1_ix4
  go_enter Try.func4, Try.ntmps4
  go_wp2
  go_ret
  exact ⟨rfl, by repeat (first | exact Below.refl _ _ | refine Below.alloc ?_ (by simp) _ | refine Below.drew ?_)⟩
set_option maxRecDepth 100000 in
set_option maxHeartbeats 400000 in
theorem FnExactElemArity_at6 (w : World) : Calls Try.prog 4 #[.int .i64 6] w fun e w' => e = .returned (.bool true) ∧ Below w.heap.size w w' := by
  have ix := ar1_ix5
  go_enter Try.func4, Try.ntmps4
  go_wp2
  go_ret
  exact ⟨rfl, by repeat (first | exact Below.refl _ _ | refine Below.alloc ?_ (by simp) _ | refine Below.drew ?_)⟩
set_option maxRecDepth 100000 in
set_option maxHeartbeats 400000 in
theorem FnExactElemArity_at7 (w : World) : Calls Try.prog 4 #[.int .i64 7] w fun e w' => e = .returned (.bool true) ∧ Below w.heap.size w w' := by
  have ix := ar1_ix6
  go_enter Try.func4, Try.ntmps4
  go_wp2
  go_ret
  exact ⟨rfl, by repeat (first | exact Below.refl _ _ | refine Below.alloc ?_ (by simp) _ | refine Below.drew ?_)⟩
set_option maxRecDepth 100000 in
set_option maxHeartbeats 400000 in
theorem FnExactElemArity_at8 (w : World) : Calls Try.prog 4 #[.int .i64 8] w fun e w' => e = .returned (.bool true) ∧ Below w.heap.size w w' := by
  have ix := ar1_ix7
  go_enter Try.func4, Try.ntmps4
  go_wp2
  go_ret
  exact ⟨rfl, by repeat (first | exact Below.refl _ _ | refine Below.alloc ?_ (by simp) _ | refine Below.drew ?_)⟩
set_option maxRecDepth 100000 in
set_option maxHeartbeats 400000 in
theorem FnExactElemArity_at9 (w : World) : Calls Try.prog 4 #[.int .i64 9] w fun e w' => e = .returned (.bool true) ∧ Below w.heap.size w w' := by
  have ix := ar1_ix8
  go_enter Try.func4, Try.ntmps4
  go_wp2
  go_ret
  exact ⟨rfl, by repeat (first | exact Below.refl _ _ | refine Below.alloc ?_ (by simp) _ | refine Below.drew ?_)⟩
set_option maxRecDepth 100000 in
set_option maxHeartbeats 400000 in
theorem FnExactElemArity_at10 (w : World) : Calls Try.prog 4 #[.int .i64 10] w fun e w' => e = .returned (.bool true) ∧ Below w.heap.size w w' := by
  have ix := ar1_ix9
  go_enter Try.func4, Try.ntmps4
  go_wp2
  go_ret
  exact ⟨rfl, by repeat (first | exact Below.refl _ _ | refine Below.alloc ?_ (by simp) _ | refine Below.drew ?_)⟩
set_option maxRecDepth 100000 in
set_option maxHeartbeats 400000 in
theorem FnExactElemArity_at21 (w : World) : Calls Try.prog 4 #[.int .i64 21] w fun e w' => e = .returned (.bool true) ∧ Below w.heap.size w w' := by
  have ix := ar2_ix0
  go_enter Try.func4, Try.ntmps4
  go_wp2
  go_ret
  exact ⟨rfl, by repeat (first | exact Below.refl _ _ | refine Below.alloc ?_ (by simp) _ | refine Below.drew ?_)⟩
set_option maxRecDepth 100000 in
set_option maxHeartbeats 400000 in
theorem FnExactElemArity_at22 (w : World) : Calls Try.prog 4 #[.int .i64 22] w fun e w' => e = .returned (.bool true) ∧ Below w.heap.size w w' := by
  have ix := ar2_ix1
  go_enter Try.func4, Try.ntmps4
  go_wp2
  go_ret
  exact ⟨rfl, by repeat (first | exact Below.refl _ _ | refine Below.alloc ?_ (by simp) _ | refine Below.drew ?_)⟩
set_option maxRecDepth 100000 in
set_option maxHeartbeats 400000 in
theorem FnExactElemArity_at23 (w : World) : Calls Try.prog 4 #[.int .i64 23] w fun e w' => e = .returned (.bool true) ∧ Below w.heap.size w w' := by
  have ix := ar2_ix2
  go_enter Try.func4, Try.ntmps4
  go_wp2
  go_ret
  exact ⟨rfl, by repeat (first | exact Below.refl _ _ | refine Below.alloc ?_ (by simp) _ | refine Below.drew ?_)⟩
set_option maxRecDepth 100000 in
set_option maxHeartbeats 400000 in
theorem FnExactElemArity_at24 (w : World) : Calls Try.prog 4 #[.int .i64 24] w fun e w' => e = .returned (.bool true) ∧ Below w.heap.size w w' := by
  have ix := ar2_ix3
  go_enter Try.func4, Try.ntmps4
  go_wp2
  go_ret
  exact ⟨rfl, by repeat (first | exact Below.refl _ _ | refine Below.alloc ?_ (by simp) _ | refine Below.drew ?_)⟩
set_option maxRecDepth 100000 in
set_option maxHeartbeats 400000 in
theorem FnExactElemArity_at25 (w : World) : Calls Try.prog 4 #[.int .i64 25] w fun e w' => e = .returned (.bool true) ∧ Below w.heap.size w w' := by
  have ix := ar2_ix4
  go_enter Try.func4, Try.ntmps4
  go_wp2
  go_ret
  exact ⟨rfl, by repeat (first | exact Below.refl _ _ | refine Below.alloc ?_ (by simp) _ | refine Below.drew ?_)⟩
set_option maxRecDepth 100000 in
set_option maxHeartbeats 400000 in
theorem FnExactElemArity_at26 (w : World) : Calls Try.prog 4 #[.int .i64 26] w fun e w' => e = .returned (.bool true) ∧ Below w.heap.size w w' := by
  have ix := ar2_ix5
  go_enter Try.func4, Try.ntmps4
  go_wp2
  go_ret
  exact ⟨rfl, by repeat (first | exact Below.refl _ _ | refine Below.alloc ?_ (by simp) _ | refine Below.drew ?_)⟩
set_option maxRecDepth 100000 in
set_option maxHeartbeats 400000 in
theorem FnExactElemArity_at27 (w : World) : Calls Try.prog 4 #[.int .i64 27] w fun e w' => e = .returned (.bool true) ∧ Below w.heap.size w w' := by
  have ix := ar2_ix6
  go_enter Try.func4, Try.ntmps4
  go_wp2
  go_ret
  exact ⟨rfl, by repeat (first | exact Below.refl _ _ | refine Below.alloc ?_ (by simp) _ | refine Below.drew ?_)⟩
set_option maxRecDepth 100000 in
set_option maxHeartbeats 400000 in
theorem FnExactElemArity_at28 (w : World) : Calls Try.prog 4 #[.int .i64 28] w fun e w' => e = .returned (.bool true) ∧ Below w.heap.size w w' := by
  have ix := ar2_ix7
  go_enter Try.func4, Try.ntmps4
  go_wp2
  go_ret
  exact ⟨rfl, by repeat (first | exact Below.refl _ _ | refine Below.alloc ?_ (by simp) _ | refine Below.drew ?_)⟩
set_option maxRecDepth 100000 in
set_option maxHeartbeats 400000 in
theorem FnExactElemArity_at29 (w : World) : Calls Try.prog 4 #[.int .i64 29] w fun e w' => e = .returned (.bool true) ∧ Below w.heap.size w w' := by
  have ix := ar2_ix8
  go_enter Try.func4, Try.ntmps4
  go_wp2
  go_ret
  exact ⟨rfl, by repeat (first | exact Below.refl _ _ | refine Below.alloc ?_ (by simp) _ | refine Below.drew ?_)⟩
set_option maxRecDepth 100000 in
set_option maxHeartbeats 400000 in
theorem FnExactElemArity_at30 (w : World) : Calls Try.prog 4 #[.int .i64 30] w fun e w' => e = .returned (.bool true) ∧ Below w.heap.size w w' := by
  have ix := ar2_ix9
  go_enter Try.func4, Try.ntmps4
  go_wp2
  go_ret
  exact ⟨rfl, by repeat (first | exact Below.refl _ _ | refine Below.alloc ?_ (by simp) _ | refine Below.drew ?_)⟩
set_option maxRecDepth 100000 in
set_option maxHeartbeats 400000 in
theorem FnExactElemArity_at31 (w : World) : Calls Try.prog 4 #[.int .i64 31] w fun e w' => e = .returned (.bool true) ∧ Below w.heap.size w w' := by
  have ix := ar2_ix10
  go_enter Try.func4, Try.ntmps4
  go_wp2
  go_ret
  exact ⟨rfl, by repeat (first | exact Below.refl _ _ | refine Below.alloc ?_ (by simp) _ | refine Below.drew ?_)⟩
set_option maxRecDepth 100000 in
set_option maxHeartbeats 400000 in
theorem FnExactElemArity_at32 (w : World) : Calls Try.prog 4 #[.int .i64 32] w fun e w' => e = .returned (.bool true) ∧ Below w.heap.size w w' := by
  have ix := ar2_ix11
  go_enter Try.func4, Try.ntmps4
  go_wp2
  go_ret
  exact ⟨rfl, by repeat (first | exact Below.refl _ _ | refine Below.alloc ?_ (by simp) _ | refine Below.drew ?_)⟩
set_option maxRecDepth 100000 in
set_option maxHeartbeats 400000 in
theorem FnExactElemArity_at33 (w : World) : Calls Try.prog 4 #[.int .i64 33] w fun e w' => e = .returned (.bool true) ∧ Below w.heap.size w w' := by
  have ix := ar2_ix12
  go_enter Try.func4, Try.ntmps4
  go_wp2
  go_ret
  exact ⟨rfl, by repeat (first | exact Below.refl _ _ | refine Below.alloc ?_ (by simp) _ | refine Below.drew ?_)⟩
set_option maxRecDepth 100000 in
set_option maxHeartbeats 400000 in
theorem FnExactElemArity_at34 (w : World) : Calls Try.prog 4 #[.int .i64 34] w fun e w' => e = .returned (.bool true) ∧ Below w.heap.size w w' := by
  have ix := ar2_ix13
  go_enter Try.func4, Try.ntmps4
  go_wp2
  go_ret
  exact ⟨rfl, by repeat (first | exact Below.refl _ _ | refine Below.alloc ?_ (by simp) _ | refine Below.drew ?_)⟩
set_option maxRecDepth 100000 in
set_option maxHeartbeats 400000 in
theorem FnExactElemArity_at35 (w : World) : Calls Try.prog 4 #[.int .i64 35] w fun e w' => e = .returned (.bool true) ∧ Below w.heap.size w w' := by
  have ix := ar2_ix14
  go_enter Try.func4, Try.ntmps4
  go_wp2
  go_ret
  exact ⟨rfl, by repeat (first | exact Below.refl _ _ | refine Below.alloc ?_ (by simp) _ | refine Below.drew ?_)⟩
set_option maxRecDepth 100000 in
set_option maxHeartbeats 400000 in
theorem FnExactElemArity_at36 (w : World) : Calls Try.prog 4 #[.int .i64 36] w fun e w' => e = .returned (.bool true) ∧ Below w.heap.size w w' := by
  have ix := ar2_ix15
  go_enter Try.func4, Try.ntmps4
  go_wp2
  go_ret
  exact ⟨rfl, by repeat (first | exact Below.refl _ _ | refine Below.alloc ?_ (by simp) _ | refine Below.drew ?_)⟩
set_option maxRecDepth 100000 in
set_option maxHeartbeats 400000 in
theorem FnExactElemArity_at37 (w : World) : Calls Try.prog 4 #[.int .i64 37] w fun e w' => e = .returned (.bool true) ∧ Below w.heap.size w w' := by
  have ix := ar2_ix16
  go_enter Try.func4, Try.ntmps4
  go_wp2
  go_ret
  exact ⟨rfl, by repeat (first | exact Below.refl _ _ | refine Below.alloc ?_ (by simp) _ | refine Below.drew ?_)⟩
theorem FnExactElemArity_walk (a0 : Int) (w0 : (Lit.int .i64 a0).wf = true) (w : World) : Calls Try.prog 4 #[.int .i64 a0] w fun e w' => e = .returned (.bool true) ∧ Below w.heap.size w w' := by
  by_cases low : a0 < 1
  · exact FnExactElemArity_low a0 low w
  by_cases mid : 10 < a0 ∧ a0 < 21
  · exact FnExactElemArity_mid a0 mid.1 mid.2 w
  by_cases high : 37 < a0
  · exact FnExactElemArity_high a0 high w
  have h3 : a0 = 1 ∨ a0 = 2 ∨ a0 = 3 ∨ a0 = 4 ∨ a0 = 5 ∨ a0 = 6 ∨ a0 = 7 ∨ a0 = 8 ∨ a0 = 9 ∨ a0 = 10 ∨ a0 = 21 ∨ a0 = 22 ∨ a0 = 23 ∨ a0 = 24 ∨ a0 = 25 ∨ a0 = 26 ∨ a0 = 27 ∨ a0 = 28 ∨ a0 = 29 ∨ a0 = 30 ∨ a0 = 31 ∨ a0 = 32 ∨ a0 = 33 ∨ a0 = 34 ∨ a0 = 35 ∨ a0 = 36 ∨ a0 = 37 := by omega
  rcases h3 with rfl | rfl | rfl | rfl | rfl | rfl | rfl | rfl | rfl | rfl | rfl | rfl | rfl | rfl | rfl | rfl | rfl | rfl | rfl | rfl | rfl | rfl | rfl | rfl | rfl | rfl | rfl
  · exact FnExactElemArity_at1 w
  · exact FnExactElemArity_at2 w
  · exact FnExactElemArity_at3 w
  · exact FnExactElemArity_at4 w
  · exact FnExactElemArity_at5 w
  · exact FnExactElemArity_at6 w
  · exact FnExactElemArity_at7 w
  · exact FnExactElemArity_at8 w
  · exact FnExactElemArity_at9 w
  · exact FnExactElemArity_at10 w
  · exact FnExactElemArity_at21 w
  · exact FnExactElemArity_at22 w
  · exact FnExactElemArity_at23 w
  · exact FnExactElemArity_at24 w
  · exact FnExactElemArity_at25 w
  · exact FnExactElemArity_at26 w
  · exact FnExactElemArity_at27 w
  · exact FnExactElemArity_at28 w
  · exact FnExactElemArity_at29 w
  · exact FnExactElemArity_at30 w
  · exact FnExactElemArity_at31 w
  · exact FnExactElemArity_at32 w
  · exact FnExactElemArity_at33 w
  · exact FnExactElemArity_at34 w
  · exact FnExactElemArity_at35 w
  · exact FnExactElemArity_at36 w
  · exact FnExactElemArity_at37 w
end Go.Proofs.Ytmlpobecilbknaa
