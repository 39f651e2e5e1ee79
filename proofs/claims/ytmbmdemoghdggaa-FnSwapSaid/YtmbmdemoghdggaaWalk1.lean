/- The walks of the laws FnExactConstants, FnExactCmpFlip, FnExactCmpText, FnExactCmpSwap, FnExactRealCmp: each law returns true and changes nothing that was there. -/
import Derived.Test.YtmbmdemoghdggaaRows
import Derived.WalkKit
import Derived.WalkSpells
import Derived.WalkLawsBesides
import Derived.OpenShut
namespace Go.Proofs.Ytmbmdemoghdggaa
open Go.RowKit
set_option linter.unusedVariables false

set_option maxHeartbeats 400000 in
theorem FnExactConstants_walk (w : World) :
    Calls Try.prog 3 #[] w fun e w' => e = .returned (.bool true) ∧ Below w.heap.size w w' := by
  go_enter Try.func3, Try.ntmps3
  go_wp2
  go_ret
  exact ⟨rfl, Below.refl _ _⟩

theorem FnExactCmpFlip_ix0 (w : World) : (Instr.index 43 (.agg #[.int .i64 5, .int .i64 6, .int .i64 4, .int .i64 3, .int .i64 1, .int .i64 2]) (.int .i64 0)).run Try.prog w = .ok (.int .i64 5) w := by kernel_rfl
theorem FnExactCmpFlip_ix1 (w : World) : (Instr.index 43 (.agg #[.int .i64 5, .int .i64 6, .int .i64 4, .int .i64 3, .int .i64 1, .int .i64 2]) (.int .i64 1)).run Try.prog w = .ok (.int .i64 6) w := by kernel_rfl
theorem FnExactCmpFlip_ix2 (w : World) : (Instr.index 43 (.agg #[.int .i64 5, .int .i64 6, .int .i64 4, .int .i64 3, .int .i64 1, .int .i64 2]) (.int .i64 2)).run Try.prog w = .ok (.int .i64 4) w := by kernel_rfl
theorem FnExactCmpFlip_ix3 (w : World) : (Instr.index 43 (.agg #[.int .i64 5, .int .i64 6, .int .i64 4, .int .i64 3, .int .i64 1, .int .i64 2]) (.int .i64 3)).run Try.prog w = .ok (.int .i64 3) w := by kernel_rfl
theorem FnExactCmpFlip_ix4 (w : World) : (Instr.index 43 (.agg #[.int .i64 5, .int .i64 6, .int .i64 4, .int .i64 3, .int .i64 1, .int .i64 2]) (.int .i64 4)).run Try.prog w = .ok (.int .i64 1) w := by kernel_rfl
theorem FnExactCmpFlip_ix5 (w : World) : (Instr.index 43 (.agg #[.int .i64 5, .int .i64 6, .int .i64 4, .int .i64 3, .int .i64 1, .int .i64 2]) (.int .i64 5)).run Try.prog w = .ok (.int .i64 2) w := by kernel_rfl
set_option maxHeartbeats 400000 in
theorem FnExactCmpFlip_low (a0 : Int) (h1 : a0 < 1) (w : World) :
    Calls Try.prog 4 #[.int .i64 a0] w fun e w' => e = .returned (.bool true) ∧ Below w.heap.size w w' := by
  have e1 : decide (a0 < 1) = true := by simp; omega
  have e2 : decide (1 ≤ a0) = false := by simp; omega
  go_enter Try.func4, Try.ntmps4
  go_wp2
  go_ret
  exact ⟨rfl, Below.refl _ _⟩
set_option maxHeartbeats 400000 in
theorem FnExactCmpFlip_high (a0 : Int) (h1 : 6 < a0) (w : World) :
    Calls Try.prog 4 #[.int .i64 a0] w fun e w' => e = .returned (.bool true) ∧ Below w.heap.size w w' := by
  have e1 : decide (a0 < 1) = false := by simp; omega
  have e2 : decide (1 ≤ a0) = true := by simp; omega
  have e3 : decide (a0 ≤ 6) = false := by simp; omega
  go_enter Try.func4, Try.ntmps4
  go_wp2
  go_ret
  exact ⟨rfl, Below.refl _ _⟩
set_option maxHeartbeats 400000 in
theorem FnExactCmpFlip_at0 (w : World) : Calls Try.prog 4 #[.int .i64 1] w fun e w' => e = .returned (.bool true) ∧ Below w.heap.size w w' := by
  have ix := FnExactCmpFlip_ix0
  go_enter Try.func4, Try.ntmps4
  go_wp2
  go_ret
  exact ⟨rfl, by repeat (first | exact Below.refl _ _ | refine Below.alloc ?_ (by simp) _ | refine Below.drew ?_)⟩
set_option maxHeartbeats 400000 in
theorem FnExactCmpFlip_at1 (w : World) : Calls Try.prog 4 #[.int .i64 2] w fun e w' => e = .returned (.bool true) ∧ Below w.heap.size w w' := by
  have ix := FnExactCmpFlip_ix1
  go_enter Try.func4, Try.ntmps4
  go_wp2
  go_ret
  exact ⟨rfl, by repeat (first | exact Below.refl _ _ | refine Below.alloc ?_ (by simp) _ | refine Below.drew ?_)⟩
set_option maxHeartbeats 400000 in
theorem FnExactCmpFlip_at2 (w : World) : Calls Try.prog 4 #[.int .i64 3] w fun e w' => e = .returned (.bool true) ∧ Below w.heap.size w w' := by
  have ix := FnExactCmpFlip_ix2
  go_enter Try.func4, Try.ntmps4
  go_wp2
  go_ret
  exact ⟨rfl, by repeat (first | exact Below.refl _ _ | refine Below.alloc ?_ (by simp) _ | refine Below.drew ?_)⟩
set_option maxHeartbeats 400000 in
theorem FnExactCmpFlip_at3 (w : World) : Calls Try.prog 4 #[.int .i64 4] w fun e w' => e = .returned (.bool true) ∧ Below w.heap.size w w' := by
  have ix := FnExactCmpFlip_ix3
  go_enter Try.func4, Try.ntmps4
  go_wp2
  go_ret
  exact ⟨rfl, by repeat (first | exact Below.refl _ _ | refine Below.alloc ?_ (by simp) _ | refine Below.drew ?_)⟩
set_option maxHeartbeats 400000 in
theorem FnExactCmpFlip_at4 (w : World) : Calls Try.prog 4 #[.int .i64 5] w fun e w' => e = .returned (.bool true) ∧ Below w.heap.size w w' := by
  have ix := FnExactCmpFlip_ix4
  go_enter Try.func4, Try.ntmps4
  go_wp2
  go_ret
  exact ⟨rfl, by repeat (first | exact Below.refl _ _ | refine Below.alloc ?_ (by simp) _ | refine Below.drew ?_)⟩
set_option maxHeartbeats 400000 in
theorem FnExactCmpFlip_at5 (w : World) : Calls Try.prog 4 #[.int .i64 6] w fun e w' => e = .returned (.bool true) ∧ Below w.heap.size w w' := by
  have ix := FnExactCmpFlip_ix5
  go_enter Try.func4, Try.ntmps4
  go_wp2
  go_ret
  exact ⟨rfl, by repeat (first | exact Below.refl _ _ | refine Below.alloc ?_ (by simp) _ | refine Below.drew ?_)⟩
theorem FnExactCmpFlip_walk (a0 : Int) (w0 : (Lit.int .i64 a0).wf = true) (w : World) :
    Calls Try.prog 4 #[.int .i64 a0] w fun e w' => e = .returned (.bool true) ∧ Below w.heap.size w w' := by
  by_cases h1 : a0 < 1
  · exact FnExactCmpFlip_low a0 h1 w
  by_cases h2 : 6 < a0
  · exact FnExactCmpFlip_high a0 h2 w
  have h3 : a0 = 1 ∨ a0 = 2 ∨ a0 = 3 ∨ a0 = 4 ∨ a0 = 5 ∨ a0 = 6 := by omega
  rcases h3 with rfl | rfl | rfl | rfl | rfl | rfl
  · exact FnExactCmpFlip_at0 w
  · exact FnExactCmpFlip_at1 w
  · exact FnExactCmpFlip_at2 w
  · exact FnExactCmpFlip_at3 w
  · exact FnExactCmpFlip_at4 w
  · exact FnExactCmpFlip_at5 w

theorem FnExactCmpText_ix0 (w : World) : (Instr.index 45 (.agg #[.string { data := #[60] }, .string { data := #[60, 61] }, .string { data := #[61] }, .string { data := #[60, 62] }, .string { data := #[62, 61] }, .string { data := #[62] }]) (.int .i64 0)).run Try.prog w = .ok (.string { data := #[60] }) w := by kernel_rfl
theorem FnExactCmpText_ix1 (w : World) : (Instr.index 45 (.agg #[.string { data := #[60] }, .string { data := #[60, 61] }, .string { data := #[61] }, .string { data := #[60, 62] }, .string { data := #[62, 61] }, .string { data := #[62] }]) (.int .i64 1)).run Try.prog w = .ok (.string { data := #[60, 61] }) w := by kernel_rfl
theorem FnExactCmpText_ix2 (w : World) : (Instr.index 45 (.agg #[.string { data := #[60] }, .string { data := #[60, 61] }, .string { data := #[61] }, .string { data := #[60, 62] }, .string { data := #[62, 61] }, .string { data := #[62] }]) (.int .i64 2)).run Try.prog w = .ok (.string { data := #[61] }) w := by kernel_rfl
theorem FnExactCmpText_ix3 (w : World) : (Instr.index 45 (.agg #[.string { data := #[60] }, .string { data := #[60, 61] }, .string { data := #[61] }, .string { data := #[60, 62] }, .string { data := #[62, 61] }, .string { data := #[62] }]) (.int .i64 3)).run Try.prog w = .ok (.string { data := #[60, 62] }) w := by kernel_rfl
theorem FnExactCmpText_ix4 (w : World) : (Instr.index 45 (.agg #[.string { data := #[60] }, .string { data := #[60, 61] }, .string { data := #[61] }, .string { data := #[60, 62] }, .string { data := #[62, 61] }, .string { data := #[62] }]) (.int .i64 4)).run Try.prog w = .ok (.string { data := #[62, 61] }) w := by kernel_rfl
theorem FnExactCmpText_ix5 (w : World) : (Instr.index 45 (.agg #[.string { data := #[60] }, .string { data := #[60, 61] }, .string { data := #[61] }, .string { data := #[60, 62] }, .string { data := #[62, 61] }, .string { data := #[62] }]) (.int .i64 5)).run Try.prog w = .ok (.string { data := #[62] }) w := by kernel_rfl
set_option maxHeartbeats 400000 in
theorem FnExactCmpText_low (a0 : Int) (h1 : a0 < 1) (w : World) :
    Calls Try.prog 5 #[.int .i64 a0] w fun e w' => e = .returned (.bool true) ∧ Below w.heap.size w w' := by
  have e1 : decide (a0 < 1) = true := by simp; omega
  have e2 : decide (1 ≤ a0) = false := by simp; omega
  go_enter Try.func5, Try.ntmps5
  go_wp2
  go_ret
  exact ⟨rfl, Below.refl _ _⟩
set_option maxHeartbeats 400000 in
theorem FnExactCmpText_high (a0 : Int) (h1 : 6 < a0) (w : World) :
    Calls Try.prog 5 #[.int .i64 a0] w fun e w' => e = .returned (.bool true) ∧ Below w.heap.size w w' := by
  have e1 : decide (a0 < 1) = false := by simp; omega
  have e2 : decide (1 ≤ a0) = true := by simp; omega
  have e3 : decide (a0 ≤ 6) = false := by simp; omega
  go_enter Try.func5, Try.ntmps5
  go_wp2
  go_ret
  exact ⟨rfl, Below.refl _ _⟩
set_option maxHeartbeats 400000 in
theorem FnExactCmpText_at0 (w : World) : Calls Try.prog 5 #[.int .i64 1] w fun e w' => e = .returned (.bool true) ∧ Below w.heap.size w w' := by
  have ix := FnExactCmpText_ix0
  go_enter Try.func5, Try.ntmps5
  go_wp2
  go_ret
  exact ⟨rfl, by repeat (first | exact Below.refl _ _ | refine Below.alloc ?_ (by simp) _ | refine Below.drew ?_)⟩
set_option maxHeartbeats 400000 in
theorem FnExactCmpText_at1 (w : World) : Calls Try.prog 5 #[.int .i64 2] w fun e w' => e = .returned (.bool true) ∧ Below w.heap.size w w' := by
  have ix := FnExactCmpText_ix1
  go_enter Try.func5, Try.ntmps5
  go_wp2
  go_ret
  exact ⟨rfl, by repeat (first | exact Below.refl _ _ | refine Below.alloc ?_ (by simp) _ | refine Below.drew ?_)⟩
set_option maxHeartbeats 400000 in
theorem FnExactCmpText_at2 (w : World) : Calls Try.prog 5 #[.int .i64 3] w fun e w' => e = .returned (.bool true) ∧ Below w.heap.size w w' := by
  have ix := FnExactCmpText_ix2
  go_enter Try.func5, Try.ntmps5
  go_wp2
  go_ret
  exact ⟨rfl, by repeat (first | exact Below.refl _ _ | refine Below.alloc ?_ (by simp) _ | refine Below.drew ?_)⟩
set_option maxHeartbeats 400000 in
theorem FnExactCmpText_at3 (w : World) : Calls Try.prog 5 #[.int .i64 4] w fun e w' => e = .returned (.bool true) ∧ Below w.heap.size w w' := by
  have ix := FnExactCmpText_ix3
  go_enter Try.func5, Try.ntmps5
  go_wp2
  go_ret
  exact ⟨rfl, by repeat (first | exact Below.refl _ _ | refine Below.alloc ?_ (by simp) _ | refine Below.drew ?_)⟩
set_option maxHeartbeats 400000 in
theorem FnExactCmpText_at4 (w : World) : Calls Try.prog 5 #[.int .i64 5] w fun e w' => e = .returned (.bool true) ∧ Below w.heap.size w w' := by
  have ix := FnExactCmpText_ix4
  go_enter Try.func5, Try.ntmps5
  go_wp2
  go_ret
  exact ⟨rfl, by repeat (first | exact Below.refl _ _ | refine Below.alloc ?_ (by simp) _ | refine Below.drew ?_)⟩
set_option maxHeartbeats 400000 in
theorem FnExactCmpText_at5 (w : World) : Calls Try.prog 5 #[.int .i64 6] w fun e w' => e = .returned (.bool true) ∧ Below w.heap.size w w' := by
  have ix := FnExactCmpText_ix5
  go_enter Try.func5, Try.ntmps5
  go_wp2
  go_ret
  exact ⟨rfl, by repeat (first | exact Below.refl _ _ | refine Below.alloc ?_ (by simp) _ | refine Below.drew ?_)⟩
theorem FnExactCmpText_walk (a0 : Int) (w0 : (Lit.int .i64 a0).wf = true) (w : World) :
    Calls Try.prog 5 #[.int .i64 a0] w fun e w' => e = .returned (.bool true) ∧ Below w.heap.size w w' := by
  by_cases h1 : a0 < 1
  · exact FnExactCmpText_low a0 h1 w
  by_cases h2 : 6 < a0
  · exact FnExactCmpText_high a0 h2 w
  have h3 : a0 = 1 ∨ a0 = 2 ∨ a0 = 3 ∨ a0 = 4 ∨ a0 = 5 ∨ a0 = 6 := by omega
  rcases h3 with rfl | rfl | rfl | rfl | rfl | rfl
  · exact FnExactCmpText_at0 w
  · exact FnExactCmpText_at1 w
  · exact FnExactCmpText_at2 w
  · exact FnExactCmpText_at3 w
  · exact FnExactCmpText_at4 w
  · exact FnExactCmpText_at5 w

theorem FnExactCmpSwap_ix0 (w : World) : (Instr.index 43 (.agg #[.int .i64 6, .int .i64 5, .int .i64 3, .int .i64 4, .int .i64 2, .int .i64 1]) (.int .i64 0)).run Try.prog w = .ok (.int .i64 6) w := by kernel_rfl
theorem FnExactCmpSwap_ix1 (w : World) : (Instr.index 43 (.agg #[.int .i64 6, .int .i64 5, .int .i64 3, .int .i64 4, .int .i64 2, .int .i64 1]) (.int .i64 1)).run Try.prog w = .ok (.int .i64 5) w := by kernel_rfl
theorem FnExactCmpSwap_ix2 (w : World) : (Instr.index 43 (.agg #[.int .i64 6, .int .i64 5, .int .i64 3, .int .i64 4, .int .i64 2, .int .i64 1]) (.int .i64 2)).run Try.prog w = .ok (.int .i64 3) w := by kernel_rfl
theorem FnExactCmpSwap_ix3 (w : World) : (Instr.index 43 (.agg #[.int .i64 6, .int .i64 5, .int .i64 3, .int .i64 4, .int .i64 2, .int .i64 1]) (.int .i64 3)).run Try.prog w = .ok (.int .i64 4) w := by kernel_rfl
theorem FnExactCmpSwap_ix4 (w : World) : (Instr.index 43 (.agg #[.int .i64 6, .int .i64 5, .int .i64 3, .int .i64 4, .int .i64 2, .int .i64 1]) (.int .i64 4)).run Try.prog w = .ok (.int .i64 2) w := by kernel_rfl
theorem FnExactCmpSwap_ix5 (w : World) : (Instr.index 43 (.agg #[.int .i64 6, .int .i64 5, .int .i64 3, .int .i64 4, .int .i64 2, .int .i64 1]) (.int .i64 5)).run Try.prog w = .ok (.int .i64 1) w := by kernel_rfl
set_option maxHeartbeats 400000 in
theorem FnExactCmpSwap_low (a0 : Int) (h1 : a0 < 1) (w : World) :
    Calls Try.prog 6 #[.int .i64 a0] w fun e w' => e = .returned (.bool true) ∧ Below w.heap.size w w' := by
  have e1 : decide (a0 < 1) = true := by simp; omega
  have e2 : decide (1 ≤ a0) = false := by simp; omega
  go_enter Try.func6, Try.ntmps6
  go_wp2
  go_ret
  exact ⟨rfl, Below.refl _ _⟩
set_option maxHeartbeats 400000 in
theorem FnExactCmpSwap_high (a0 : Int) (h1 : 6 < a0) (w : World) :
    Calls Try.prog 6 #[.int .i64 a0] w fun e w' => e = .returned (.bool true) ∧ Below w.heap.size w w' := by
  have e1 : decide (a0 < 1) = false := by simp; omega
  have e2 : decide (1 ≤ a0) = true := by simp; omega
  have e3 : decide (a0 ≤ 6) = false := by simp; omega
  go_enter Try.func6, Try.ntmps6
  go_wp2
  go_ret
  exact ⟨rfl, Below.refl _ _⟩
set_option maxHeartbeats 400000 in
theorem FnExactCmpSwap_at0 (w : World) : Calls Try.prog 6 #[.int .i64 1] w fun e w' => e = .returned (.bool true) ∧ Below w.heap.size w w' := by
  have ix := FnExactCmpSwap_ix0
  go_enter Try.func6, Try.ntmps6
  go_wp2
  go_ret
  exact ⟨rfl, by repeat (first | exact Below.refl _ _ | refine Below.alloc ?_ (by simp) _ | refine Below.drew ?_)⟩
set_option maxHeartbeats 400000 in
theorem FnExactCmpSwap_at1 (w : World) : Calls Try.prog 6 #[.int .i64 2] w fun e w' => e = .returned (.bool true) ∧ Below w.heap.size w w' := by
  have ix := FnExactCmpSwap_ix1
  go_enter Try.func6, Try.ntmps6
  go_wp2
  go_ret
  exact ⟨rfl, by repeat (first | exact Below.refl _ _ | refine Below.alloc ?_ (by simp) _ | refine Below.drew ?_)⟩
set_option maxHeartbeats 400000 in
theorem FnExactCmpSwap_at2 (w : World) : Calls Try.prog 6 #[.int .i64 3] w fun e w' => e = .returned (.bool true) ∧ Below w.heap.size w w' := by
  have ix := FnExactCmpSwap_ix2
  go_enter Try.func6, Try.ntmps6
  go_wp2
  go_ret
  exact ⟨rfl, by repeat (first | exact Below.refl _ _ | refine Below.alloc ?_ (by simp) _ | refine Below.drew ?_)⟩
set_option maxHeartbeats 400000 in
theorem FnExactCmpSwap_at3 (w : World) : Calls Try.prog 6 #[.int .i64 4] w fun e w' => e = .returned (.bool true) ∧ Below w.heap.size w w' := by
  have ix := FnExactCmpSwap_ix3
  go_enter Try.func6, Try.ntmps6
  go_wp2
  go_ret
  exact ⟨rfl, by repeat (first | exact Below.refl _ _ | refine Below.alloc ?_ (by simp) _ | refine Below.drew ?_)⟩
set_option maxHeartbeats 400000 in
theorem FnExactCmpSwap_at4 (w : World) : Calls Try.prog 6 #[.int .i64 5] w fun e w' => e = .returned (.bool true) ∧ Below w.heap.size w w' := by
  have ix := FnExactCmpSwap_ix4
  go_enter Try.func6, Try.ntmps6
  go_wp2
  go_ret
  exact ⟨rfl, by repeat (first | exact Below.refl _ _ | refine Below.alloc ?_ (by simp) _ | refine Below.drew ?_)⟩
set_option maxHeartbeats 400000 in
theorem FnExactCmpSwap_at5 (w : World) : Calls Try.prog 6 #[.int .i64 6] w fun e w' => e = .returned (.bool true) ∧ Below w.heap.size w w' := by
  have ix := FnExactCmpSwap_ix5
  go_enter Try.func6, Try.ntmps6
  go_wp2
  go_ret
  exact ⟨rfl, by repeat (first | exact Below.refl _ _ | refine Below.alloc ?_ (by simp) _ | refine Below.drew ?_)⟩
theorem FnExactCmpSwap_walk (a0 : Int) (w0 : (Lit.int .i64 a0).wf = true) (w : World) :
    Calls Try.prog 6 #[.int .i64 a0] w fun e w' => e = .returned (.bool true) ∧ Below w.heap.size w w' := by
  by_cases h1 : a0 < 1
  · exact FnExactCmpSwap_low a0 h1 w
  by_cases h2 : 6 < a0
  · exact FnExactCmpSwap_high a0 h2 w
  have h3 : a0 = 1 ∨ a0 = 2 ∨ a0 = 3 ∨ a0 = 4 ∨ a0 = 5 ∨ a0 = 6 := by omega
  rcases h3 with rfl | rfl | rfl | rfl | rfl | rfl
  · exact FnExactCmpSwap_at0 w
  · exact FnExactCmpSwap_at1 w
  · exact FnExactCmpSwap_at2 w
  · exact FnExactCmpSwap_at3 w
  · exact FnExactCmpSwap_at4 w
  · exact FnExactCmpSwap_at5 w

set_option maxHeartbeats 400000 in
theorem FnExactRealCmp_low (a0 : Int) (h1 : a0 < 1) (a1 a2 : Nat) (w : World) :
    Calls Try.prog 7 #[.int .i64 a0, .float .f64 a1, .float .f64 a2] w fun e w' => e = .returned (.bool true) ∧ Below w.heap.size w w' := by
  go_enter Try.func7, Try.ntmps7
  go_wp2
  go_ret
  exact ⟨rfl, Below.refl _ _⟩
set_option maxHeartbeats 400000 in
theorem FnExactRealCmp_high (a0 : Int) (h1 : 6 < a0) (a1 a2 : Nat) (w : World) :
    Calls Try.prog 7 #[.int .i64 a0, .float .f64 a1, .float .f64 a2] w fun e w' => e = .returned (.bool true) ∧ Below w.heap.size w w' := by
  go_enter Try.func7, Try.ntmps7
  go_wp2
  go_ret
  exact ⟨rfl, Below.refl _ _⟩
set_option maxHeartbeats 400000 in
theorem FnExactRealCmp_at0 (a1 a2 : Nat) (w : World) : Calls Try.prog 7 #[.int .i64 1, .float .f64 a1, .float .f64 a2] w fun e w' => e = .returned (.bool true) ∧ Below w.heap.size w w' := by
  go_enter Try.func7, Try.ntmps7
  go_wp2
  go_ret
  exact ⟨rfl, Below.refl _ _⟩
set_option maxHeartbeats 400000 in
theorem FnExactRealCmp_at1 (a1 a2 : Nat) (w : World) : Calls Try.prog 7 #[.int .i64 2, .float .f64 a1, .float .f64 a2] w fun e w' => e = .returned (.bool true) ∧ Below w.heap.size w w' := by
  go_enter Try.func7, Try.ntmps7
  go_wp2
  go_ret
  exact ⟨rfl, Below.refl _ _⟩
set_option maxHeartbeats 400000 in
theorem FnExactRealCmp_at2 (a1 a2 : Nat) (w : World) : Calls Try.prog 7 #[.int .i64 3, .float .f64 a1, .float .f64 a2] w fun e w' => e = .returned (.bool true) ∧ Below w.heap.size w w' := by
  go_enter Try.func7, Try.ntmps7
  go_wp2
  go_ret
  exact ⟨rfl, Below.refl _ _⟩
set_option maxHeartbeats 400000 in
theorem FnExactRealCmp_at3 (a1 a2 : Nat) (w : World) : Calls Try.prog 7 #[.int .i64 4, .float .f64 a1, .float .f64 a2] w fun e w' => e = .returned (.bool true) ∧ Below w.heap.size w w' := by
  go_enter Try.func7, Try.ntmps7
  go_wp2
  go_ret
  exact ⟨rfl, Below.refl _ _⟩
set_option maxHeartbeats 400000 in
theorem FnExactRealCmp_at4 (a1 a2 : Nat) (w : World) : Calls Try.prog 7 #[.int .i64 5, .float .f64 a1, .float .f64 a2] w fun e w' => e = .returned (.bool true) ∧ Below w.heap.size w w' := by
  go_enter Try.func7, Try.ntmps7
  go_wp2
  go_ret
  exact ⟨rfl, Below.refl _ _⟩
set_option maxHeartbeats 400000 in
theorem FnExactRealCmp_at5 (a1 a2 : Nat) (w : World) : Calls Try.prog 7 #[.int .i64 6, .float .f64 a1, .float .f64 a2] w fun e w' => e = .returned (.bool true) ∧ Below w.heap.size w w' := by
  go_enter Try.func7, Try.ntmps7
  go_wp2
  go_ret
  exact ⟨rfl, Below.refl _ _⟩
theorem FnExactRealCmp_walk (a0 : Int) (w0 : (Lit.int .i64 a0).wf = true) (a1 : Nat) (w1 : (Lit.float .f64 a1).wf = true) (a2 : Nat) (w2 : (Lit.float .f64 a2).wf = true) (w : World) :
    Calls Try.prog 7 #[.int .i64 a0, .float .f64 a1, .float .f64 a2] w fun e w' => e = .returned (.bool true) ∧ Below w.heap.size w w' := by
  by_cases h1 : a0 < 1
  · exact FnExactRealCmp_low a0 h1 a1 a2 w
  by_cases h2 : 6 < a0
  · exact FnExactRealCmp_high a0 h2 a1 a2 w
  have h3 : a0 = 1 ∨ a0 = 2 ∨ a0 = 3 ∨ a0 = 4 ∨ a0 = 5 ∨ a0 = 6 := by omega
  rcases h3 with rfl | rfl | rfl | rfl | rfl | rfl
  · exact FnExactRealCmp_at0 a1 a2 w
  · exact FnExactRealCmp_at1 a1 a2 w
  · exact FnExactRealCmp_at2 a1 a2 w
  · exact FnExactRealCmp_at3 a1 a2 w
  · exact FnExactRealCmp_at4 a1 a2 w
  · exact FnExactRealCmp_at5 a1 a2 w

end Go.Proofs.Ytmbmdemoghdggaa
