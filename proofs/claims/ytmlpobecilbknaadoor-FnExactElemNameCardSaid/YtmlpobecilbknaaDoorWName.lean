/- The walk of FnExactElemName. -/
import Derived.Test.YtmlpobecilbknaaDoorRows
import Derived.Test.YtmlpobecilbknaaDoorLaidS
import Derived.WalkKit
import Derived.WalkSpells
import Derived.WalkLawsBesides
import Derived.OpenShut
namespace Go.Proofs.YtmlpobecilbknaaDoor
open Go.RowKit Ls
set_option linter.unusedVariables false

def coils : List ByteArray := [⟨#[111, 117, 116]⟩, ⟨#[115, 101, 116]⟩, ⟨#[114, 101, 115, 101, 116]⟩, ⟨#[112, 117, 108, 115, 101]⟩, ⟨#[115, 116, 101, 112]⟩, ⟨#[116, 105, 109, 101, 114]⟩, ⟨#[104, 111, 108, 100]⟩, ⟨#[108, 97, 116, 101]⟩, ⟨#[99, 111, 117, 110, 116]⟩, ⟨#[109, 111, 118, 101]⟩, ⟨#[97, 100, 100]⟩, ⟨#[115, 117, 98]⟩, ⟨#[109, 117, 108]⟩, ⟨#[100, 105, 118]⟩, ⟨#[114, 101, 109]⟩, ⟨#[114, 101, 97, 108]⟩, ⟨#[119, 104, 111, 108, 101]⟩]
theorem coils_of {w : World} (h : laidMetH Tryd.prog Rows.fnExactElemNameRow.laid w) : StrsIs Tryd.prog w "loop.example/stilmach/impl.coilNames" coils := by
  rw [MakeChecks.laidMetH_plain _ _ _ (by kernel_rfl)] at h
  exact strs_of_laid (g := 0) (t := 44) (by kernel_rfl) (by kernel_rfl) Tryd.underlying44 Tryd.underlying9 (by kernel_rfl) (by kernel_rfl) (List.Mem.head _) h
set_option maxRecDepth 100000 in
set_option maxHeartbeats 1000000 in
theorem FnExactElemName_low (a0 : Int) (h0 : a0 < 21) (w : World) : Calls Tryd.prog 3 #[.int .i64 a0] w fun e w' => e = .returned (.bool true) ∧ Below w.heap.size w w' := by
  have : decide ((21 : Int) ≤ a0) = false := by simp; omega
  go_enter Tryd.func3, Tryd.ntmps3
  go_wp2
  go_ret
  exact ⟨rfl, by repeat (first | exact Below.refl _ _ | refine Below.alloc ?_ (by simp) _ | refine Below.drew ?_)⟩
set_option maxRecDepth 100000 in
set_option maxHeartbeats 1000000 in
theorem FnExactElemName_high (a0 : Int) (h0 : 37 < a0) (w : World) : Calls Tryd.prog 3 #[.int .i64 a0] w fun e w' => e = .returned (.bool true) ∧ Below w.heap.size w w' := by
  have : decide ((21 : Int) ≤ a0) = true := by simp; omega
  have : decide (a0 ≤ (37 : Int)) = false := by simp; omega
  go_enter Tryd.func3, Tryd.ntmps3
  go_wp2
  go_ret
  exact ⟨rfl, by repeat (first | exact Below.refl _ _ | refine Below.alloc ?_ (by simp) _ | refine Below.drew ?_)⟩
set_option maxRecDepth 100000 in
set_option maxHeartbeats 1000000 in
theorem FnExactElemName_at21 (w : World) (hg : 0 < w.heap.size) (hc : w.cell? ⟨0, 0, none⟩ = some (.string ⟨#[111, 117, 116]⟩)) : Calls Tryd.prog 3 #[.int .i64 21] w fun e w' => e = .returned (.bool true) ∧ Below w.heap.size w w' := by
  go_enter Tryd.func3, Tryd.ntmps3
  go_wp2
  go_ret
  exact ⟨rfl, by repeat (first | exact Below.refl _ _ | refine Below.alloc ?_ (by simp) _ | refine Below.drew ?_)⟩
set_option maxRecDepth 100000 in
set_option maxHeartbeats 1000000 in
theorem FnExactElemName_at22 (w : World) (hg : 0 < w.heap.size) (hc : w.cell? ⟨0, 1, none⟩ = some (.string ⟨#[115, 101, 116]⟩)) : Calls Tryd.prog 3 #[.int .i64 22] w fun e w' => e = .returned (.bool true) ∧ Below w.heap.size w w' := by
  go_enter Tryd.func3, Tryd.ntmps3
  go_wp2
  go_ret
  exact ⟨rfl, by repeat (first | exact Below.refl _ _ | refine Below.alloc ?_ (by simp) _ | refine Below.drew ?_)⟩
set_option maxRecDepth 100000 in
set_option maxHeartbeats 1000000 in
theorem FnExactElemName_at23 (w : World) (hg : 0 < w.heap.size) (hc : w.cell? ⟨0, 2, none⟩ = some (.string ⟨#[114, 101, 115, 101, 116]⟩)) : Calls Tryd.prog 3 #[.int .i64 23] w fun e w' => e = .returned (.bool true) ∧ Below w.heap.size w w' := by
  go_enter Tryd.func3, Tryd.ntmps3
  go_wp2
  go_ret
  exact ⟨rfl, by repeat (first | exact Below.refl _ _ | refine Below.alloc ?_ (by simp) _ | refine Below.drew ?_)⟩
set_option maxRecDepth 100000 in
set_option maxHeartbeats 1000000 in
theorem FnExactElemName_at24 (w : World) (hg : 0 < w.heap.size) (hc : w.cell? ⟨0, 3, none⟩ = some (.string ⟨#[112, 117, 108, 115, 101]⟩)) : Calls Tryd.prog 3 #[.int .i64 24] w fun e w' => e = .returned (.bool true) ∧ Below w.heap.size w w' := by
  go_enter Tryd.func3, Tryd.ntmps3
  go_wp2
  go_ret
  exact ⟨rfl, by repeat (first | exact Below.refl _ _ | refine Below.alloc ?_ (by simp) _ | refine Below.drew ?_)⟩
set_option maxRecDepth 100000 in
set_option maxHeartbeats 1000000 in
theorem FnExactElemName_at25 (w : World) (hg : 0 < w.heap.size) (hc : w.cell? ⟨0, 4, none⟩ = some (.string ⟨#[115, 116, 101, 112]⟩)) : Calls Tryd.prog 3 #[.int .i64 25] w fun e w' => e = .returned (.bool true) ∧ Below w.heap.size w w' := by
  go_enter Tryd.func3, Tryd.ntmps3
  go_wp2
  go_ret
  exact ⟨rfl, by repeat (first | exact Below.refl _ _ | refine Below.alloc ?_ (by simp) _ | refine Below.drew ?_)⟩
set_option maxRecDepth 100000 in
set_option maxHeartbeats 1000000 in
theorem FnExactElemName_at26 (w : World) (hg : 0 < w.heap.size) (hc : w.cell? ⟨0, 5, none⟩ = some (.string ⟨#[116, 105, 109, 101, 114]⟩)) : Calls Tryd.prog 3 #[.int .i64 26] w fun e w' => e = .returned (.bool true) ∧ Below w.heap.size w w' := by
  go_enter Tryd.func3, Tryd.ntmps3
  go_wp2
  go_ret
  exact ⟨rfl, by repeat (first | exact Below.refl _ _ | refine Below.alloc ?_ (by simp) _ | refine Below.drew ?_)⟩
set_option maxRecDepth 100000 in
set_option maxHeartbeats 1000000 in
theorem FnExactElemName_at27 (w : World) (hg : 0 < w.heap.size) (hc : w.cell? ⟨0, 6, none⟩ = some (.string ⟨#[104, 111, 108, 100]⟩)) : Calls Tryd.prog 3 #[.int .i64 27] w fun e w' => e = .returned (.bool true) ∧ Below w.heap.size w w' := by
  go_enter Tryd.func3, Tryd.ntmps3
  go_wp2
  go_ret
  exact ⟨rfl, by repeat (first | exact Below.refl _ _ | refine Below.alloc ?_ (by simp) _ | refine Below.drew ?_)⟩
set_option maxRecDepth 100000 in
set_option maxHeartbeats 1000000 in
theorem FnExactElemName_at28 (w : World) (hg : 0 < w.heap.size) (hc : w.cell? ⟨0, 7, none⟩ = some (.string ⟨#[108, 97, 116, 101]⟩)) : Calls Tryd.prog 3 #[.int .i64 28] w fun e w' => e = .returned (.bool true) ∧ Below w.heap.size w w' := by
  go_enter Tryd.func3, Tryd.ntmps3
  go_wp2
  go_ret
  exact ⟨rfl, by repeat (first | exact Below.refl _ _ | refine Below.alloc ?_ (by simp) _ | refine Below.drew ?_)⟩
set_option maxRecDepth 100000 in
set_option maxHeartbeats 1000000 in
theorem FnExactElemName_at29 (w : World) (hg : 0 < w.heap.size) (hc : w.cell? ⟨0, 8, none⟩ = some (.string ⟨#[99, 111, 117, 110, 116]⟩)) : Calls Tryd.prog 3 #[.int .i64 29] w fun e w' => e = .returned (.bool true) ∧ Below w.heap.size w w' := by
  go_enter Tryd.func3, Tryd.ntmps3
  go_wp2
  go_ret
  exact ⟨rfl, by repeat (first | exact Below.refl _ _ | refine Below.alloc ?_ (by simp) _ | refine Below.drew ?_)⟩
set_option maxRecDepth 100000 in
set_option maxHeartbeats 1000000 in
theorem FnExactElemName_at30 (w : World) (hg : 0 < w.heap.size) (hc : w.cell? ⟨0, 9, none⟩ = some (.string ⟨#[109, 111, 118, 101]⟩)) : Calls Tryd.prog 3 #[.int .i64 30] w fun e w' => e = .returned (.bool true) ∧ Below w.heap.size w w' := by
  go_enter Tryd.func3, Tryd.ntmps3
  go_wp2
  go_ret
  exact ⟨rfl, by repeat (first | exact Below.refl _ _ | refine Below.alloc ?_ (by simp) _ | refine Below.drew ?_)⟩
set_option maxRecDepth 100000 in
set_option maxHeartbeats 1000000 in
theorem FnExactElemName_at31 (w : World) (hg : 0 < w.heap.size) (hc : w.cell? ⟨0, 10, none⟩ = some (.string ⟨#[97, 100, 100]⟩)) : Calls Tryd.prog 3 #[.int .i64 31] w fun e w' => e = .returned (.bool true) ∧ Below w.heap.size w w' := by
  go_enter Tryd.func3, Tryd.ntmps3
  go_wp2
  go_ret
  exact ⟨rfl, by repeat (first | exact Below.refl _ _ | refine Below.alloc ?_ (by simp) _ | refine Below.drew ?_)⟩
set_option maxRecDepth 100000 in
set_option maxHeartbeats 1000000 in
theorem FnExactElemName_at32 (w : World) (hg : 0 < w.heap.size) (hc : w.cell? ⟨0, 11, none⟩ = some (.string ⟨#[115, 117, 98]⟩)) : Calls Tryd.prog 3 #[.int .i64 32] w fun e w' => e = .returned (.bool true) ∧ Below w.heap.size w w' := by
  go_enter Tryd.func3, Tryd.ntmps3
  go_wp2
  go_ret
  exact ⟨rfl, by repeat (first | exact Below.refl _ _ | refine Below.alloc ?_ (by simp) _ | refine Below.drew ?_)⟩
set_option maxRecDepth 100000 in
set_option maxHeartbeats 1000000 in
theorem FnExactElemName_at33 (w : World) (hg : 0 < w.heap.size) (hc : w.cell? ⟨0, 12, none⟩ = some (.string ⟨#[109, 117, 108]⟩)) : Calls Tryd.prog 3 #[.int .i64 33] w fun e w' => e = .returned (.bool true) ∧ Below w.heap.size w w' := by
  go_enter Tryd.func3, Tryd.ntmps3
  go_wp2
  go_ret
  exact ⟨rfl, by repeat (first | exact Below.refl _ _ | refine Below.alloc ?_ (by simp) _ | refine Below.drew ?_)⟩
set_option maxRecDepth 100000 in
set_option maxHeartbeats 1000000 in
theorem FnExactElemName_at34 (w : World) (hg : 0 < w.heap.size) (hc : w.cell? ⟨0, 13, none⟩ = some (.string ⟨#[100, 105, 118]⟩)) : Calls Tryd.prog 3 #[.int .i64 34] w fun e w' => e = .returned (.bool true) ∧ Below w.heap.size w w' := by
  go_enter Tryd.func3, Tryd.ntmps3
  go_wp2
  go_ret
  exact ⟨rfl, by repeat (first | exact Below.refl _ _ | refine Below.alloc ?_ (by simp) _ | refine Below.drew ?_)⟩
set_option maxRecDepth 100000 in
set_option maxHeartbeats 1000000 in
theorem FnExactElemName_at35 (w : World) (hg : 0 < w.heap.size) (hc : w.cell? ⟨0, 14, none⟩ = some (.string ⟨#[114, 101, 109]⟩)) : Calls Tryd.prog 3 #[.int .i64 35] w fun e w' => e = .returned (.bool true) ∧ Below w.heap.size w w' := by
  go_enter Tryd.func3, Tryd.ntmps3
  go_wp2
  go_ret
  exact ⟨rfl, by repeat (first | exact Below.refl _ _ | refine Below.alloc ?_ (by simp) _ | refine Below.drew ?_)⟩
set_option maxRecDepth 100000 in
set_option maxHeartbeats 1000000 in
theorem FnExactElemName_at36 (w : World) (hg : 0 < w.heap.size) (hc : w.cell? ⟨0, 15, none⟩ = some (.string ⟨#[114, 101, 97, 108]⟩)) : Calls Tryd.prog 3 #[.int .i64 36] w fun e w' => e = .returned (.bool true) ∧ Below w.heap.size w w' := by
  go_enter Tryd.func3, Tryd.ntmps3
  go_wp2
  go_ret
  exact ⟨rfl, by repeat (first | exact Below.refl _ _ | refine Below.alloc ?_ (by simp) _ | refine Below.drew ?_)⟩
set_option maxRecDepth 100000 in
set_option maxHeartbeats 1000000 in
theorem FnExactElemName_at37 (w : World) (hg : 0 < w.heap.size) (hc : w.cell? ⟨0, 16, none⟩ = some (.string ⟨#[119, 104, 111, 108, 101]⟩)) : Calls Tryd.prog 3 #[.int .i64 37] w fun e w' => e = .returned (.bool true) ∧ Below w.heap.size w w' := by
  go_enter Tryd.func3, Tryd.ntmps3
  go_wp2
  go_ret
  exact ⟨rfl, by repeat (first | exact Below.refl _ _ | refine Below.alloc ?_ (by simp) _ | refine Below.drew ?_)⟩
theorem FnExactElemName_walk (a0 : Int) (w0 : (Lit.int .i64 a0).wf = true) (w : World) (hL : laidMetH Tryd.prog Rows.fnExactElemNameRow.laid w) : Calls Tryd.prog 3 #[.int .i64 a0] w fun e w' => e = .returned (.bool true) ∧ Below w.heap.size w w' := by
  have hs := coils_of hL
  have hg : 0 < w.heap.size := hs.lt (by kernel_rfl)
  have hc := fun i hi => hs.cell (g := 0) (by kernel_rfl) i hi
  by_cases h1 : a0 < 21
  · exact FnExactElemName_low a0 h1 w
  by_cases h2 : 37 < a0
  · exact FnExactElemName_high a0 h2 w
  have h3 : a0 = 21 ∨ a0 = 22 ∨ a0 = 23 ∨ a0 = 24 ∨ a0 = 25 ∨ a0 = 26 ∨ a0 = 27 ∨ a0 = 28 ∨ a0 = 29 ∨ a0 = 30 ∨ a0 = 31 ∨ a0 = 32 ∨ a0 = 33 ∨ a0 = 34 ∨ a0 = 35 ∨ a0 = 36 ∨ a0 = 37 := by omega
  rcases h3 with rfl | rfl | rfl | rfl | rfl | rfl | rfl | rfl | rfl | rfl | rfl | rfl | rfl | rfl | rfl | rfl | rfl
  · exact FnExactElemName_at21 w hg (hc 0 (by decide))
  · exact FnExactElemName_at22 w hg (hc 1 (by decide))
  · exact FnExactElemName_at23 w hg (hc 2 (by decide))
  · exact FnExactElemName_at24 w hg (hc 3 (by decide))
  · exact FnExactElemName_at25 w hg (hc 4 (by decide))
  · exact FnExactElemName_at26 w hg (hc 5 (by decide))
  · exact FnExactElemName_at27 w hg (hc 6 (by decide))
  · exact FnExactElemName_at28 w hg (hc 7 (by decide))
  · exact FnExactElemName_at29 w hg (hc 8 (by decide))
  · exact FnExactElemName_at30 w hg (hc 9 (by decide))
  · exact FnExactElemName_at31 w hg (hc 10 (by decide))
  · exact FnExactElemName_at32 w hg (hc 11 (by decide))
  · exact FnExactElemName_at33 w hg (hc 12 (by decide))
  · exact FnExactElemName_at34 w hg (hc 13 (by decide))
  · exact FnExactElemName_at35 w hg (hc 14 (by decide))
  · exact FnExactElemName_at36 w hg (hc 15 (by decide))
  · exact FnExactElemName_at37 w hg (hc 16 (by decide))
end Go.Proofs.YtmlpobecilbknaaDoor
