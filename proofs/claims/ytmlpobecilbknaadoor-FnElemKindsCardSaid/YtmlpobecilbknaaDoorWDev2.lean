/- The contracts of DevIsBit, DevIsWhole, DevIsReal, the program's and the reference's, and of toDevArg. -/
import Derived.Test.YtmlpobecilbknaaDoorRows
import Derived.Test.YtmlpobecilbknaaDoorWDev
import Derived.Test.YtmlpobecilbknaaDoorBox
import Derived.WalkKit
import Derived.WalkSpells
import Derived.WalkLawsBesides
import Derived.OpenShut
namespace Go.Proofs.YtmlpobecilbknaaDoor
open Go.RowKit Bx
set_option linter.unusedVariables false

set_option maxRecDepth 100000 in
set_option maxHeartbeats 400000 in
theorem toDevArg_any (k n p : Int) (w : World) : Calls Tryd.prog 55 #[.agg #[.int .i64 k, .int .i64 n, .int .i64 p]] w fun e w' => e = .returned (.agg #[.int .i64 k, .int .i64 n, .int .i64 p]) ∧ Below w.heap.size w w' := by
  go_enter Tryd.func55, Tryd.ntmps55
  go_wp2
  exact bodyPost_ret (v := .agg #[.int .i64 k, .int .i64 n, .int .i64 p]) (by simp [results, Tryd.results55, go_sem]) rfl ⟨rfl, by repeat (first | exact Below.refl _ _ | refine Below.alloc ?_ (by first | (simp; done) | (simp; omega) | omega) _ | refine Below.drew ?_ | refine Bx.bel_drewN ?_ _ | refine Below.setCell ?_ (by first | (simp; done) | (simp; omega) | omega) _)⟩
set_option maxRecDepth 100000 in
set_option maxHeartbeats 400000 in
theorem devIsBit_s_no (k n p : Int) (hok : DevP.ok k n p = false) (w : World) : Calls Tryd.prog 42 #[.agg #[.int .i64 k, .int .i64 n, .int .i64 p]] w fun e w' => e = .returned (.bool false) ∧ Below w.heap.size w w' := by
  go_enter Tryd.func42, Tryd.ntmps42
  go_wp2_with fail
  refine (devOk_s_any k n p _).mono ?_
  rintro e w1 ⟨rfl, hb1⟩
  have b1 := (Box.new w #[.int .i64 k, .int .i64 n, .int .i64 p] 40).kept hb1
  have c0 : w1.cell? ⟨w.heap.size, 0, none⟩ = some (.int .i64 k) := b1.cell 0
  have hB : Below w.heap.size w w1 := bel_step ((Below.refl _ _).alloc (Nat.le_refl _) _) hb1 (by simp)
  clear hb1 b1
  go_wp2
  go_ret
  exact ⟨rfl, hB⟩
set_option maxRecDepth 100000 in
set_option maxHeartbeats 400000 in
theorem devIsBit_s_1 (n p : Int) (hok : DevP.ok 1 n p = true) (w : World) : Calls Tryd.prog 42 #[.agg #[.int .i64 1, .int .i64 n, .int .i64 p]] w fun e w' => e = .returned (.bool true) ∧ Below w.heap.size w w' := by
  go_enter Tryd.func42, Tryd.ntmps42
  go_wp2_with fail
  refine (devOk_s_any 1 n p _).mono ?_
  rintro e w1 ⟨rfl, hb1⟩
  have b1 := (Box.new w #[.int .i64 1, .int .i64 n, .int .i64 p] 40).kept hb1
  have c0 : w1.cell? ⟨w.heap.size, 0, none⟩ = some (.int .i64 1) := b1.cell 0
  have hB : Below w.heap.size w w1 := bel_step ((Below.refl _ _).alloc (Nat.le_refl _) _) hb1 (by simp)
  clear hb1 b1
  go_wp2
  go_ret
  exact ⟨rfl, hB⟩
set_option maxRecDepth 100000 in
set_option maxHeartbeats 400000 in
theorem devIsBit_s_2 (n p : Int) (hok : DevP.ok 2 n p = true) (w : World) : Calls Tryd.prog 42 #[.agg #[.int .i64 2, .int .i64 n, .int .i64 p]] w fun e w' => e = .returned (.bool true) ∧ Below w.heap.size w w' := by
  go_enter Tryd.func42, Tryd.ntmps42
  go_wp2_with fail
  refine (devOk_s_any 2 n p _).mono ?_
  rintro e w1 ⟨rfl, hb1⟩
  have b1 := (Box.new w #[.int .i64 2, .int .i64 n, .int .i64 p] 40).kept hb1
  have c0 : w1.cell? ⟨w.heap.size, 0, none⟩ = some (.int .i64 2) := b1.cell 0
  have hB : Below w.heap.size w w1 := bel_step ((Below.refl _ _).alloc (Nat.le_refl _) _) hb1 (by simp)
  clear hb1 b1
  go_wp2
  go_ret
  exact ⟨rfl, hB⟩
set_option maxRecDepth 100000 in
set_option maxHeartbeats 400000 in
theorem devIsBit_s_3 (n p : Int) (hok : DevP.ok 3 n p = true) (w : World) : Calls Tryd.prog 42 #[.agg #[.int .i64 3, .int .i64 n, .int .i64 p]] w fun e w' => e = .returned (.bool true) ∧ Below w.heap.size w w' := by
  go_enter Tryd.func42, Tryd.ntmps42
  go_wp2_with fail
  refine (devOk_s_any 3 n p _).mono ?_
  rintro e w1 ⟨rfl, hb1⟩
  have b1 := (Box.new w #[.int .i64 3, .int .i64 n, .int .i64 p] 40).kept hb1
  have c0 : w1.cell? ⟨w.heap.size, 0, none⟩ = some (.int .i64 3) := b1.cell 0
  have hB : Below w.heap.size w w1 := bel_step ((Below.refl _ _).alloc (Nat.le_refl _) _) hb1 (by simp)
  clear hb1 b1
  go_wp2
  go_ret
  exact ⟨rfl, hB⟩
set_option maxRecDepth 100000 in
set_option maxHeartbeats 400000 in
theorem devIsBit_s_4 (n p : Int) (hok : DevP.ok 4 n p = true) (w : World) : Calls Tryd.prog 42 #[.agg #[.int .i64 4, .int .i64 n, .int .i64 p]] w fun e w' => e = .returned (.bool true) ∧ Below w.heap.size w w' := by
  go_enter Tryd.func42, Tryd.ntmps42
  go_wp2_with fail
  refine (devOk_s_any 4 n p _).mono ?_
  rintro e w1 ⟨rfl, hb1⟩
  have b1 := (Box.new w #[.int .i64 4, .int .i64 n, .int .i64 p] 40).kept hb1
  have c0 : w1.cell? ⟨w.heap.size, 0, none⟩ = some (.int .i64 4) := b1.cell 0
  have hB : Below w.heap.size w w1 := bel_step ((Below.refl _ _).alloc (Nat.le_refl _) _) hb1 (by simp)
  clear hb1 b1
  go_wp2
  go_ret
  exact ⟨rfl, hB⟩
set_option maxRecDepth 100000 in
set_option maxHeartbeats 400000 in
theorem devIsBit_s_5 (n p : Int) (hok : DevP.ok 5 n p = true) (w : World) : Calls Tryd.prog 42 #[.agg #[.int .i64 5, .int .i64 n, .int .i64 p]] w fun e w' => e = .returned (.bool false) ∧ Below w.heap.size w w' := by
  go_enter Tryd.func42, Tryd.ntmps42
  go_wp2_with fail
  refine (devOk_s_any 5 n p _).mono ?_
  rintro e w1 ⟨rfl, hb1⟩
  have b1 := (Box.new w #[.int .i64 5, .int .i64 n, .int .i64 p] 40).kept hb1
  have c0 : w1.cell? ⟨w.heap.size, 0, none⟩ = some (.int .i64 5) := b1.cell 0
  have hB : Below w.heap.size w w1 := bel_step ((Below.refl _ _).alloc (Nat.le_refl _) _) hb1 (by simp)
  clear hb1 b1
  go_wp2
  go_ret
  exact ⟨rfl, hB⟩
set_option maxRecDepth 100000 in
set_option maxHeartbeats 400000 in
theorem devIsBit_s_6 (n p : Int) (hok : DevP.ok 6 n p = true) (w : World) : Calls Tryd.prog 42 #[.agg #[.int .i64 6, .int .i64 n, .int .i64 p]] w fun e w' => e = .returned (.bool true) ∧ Below w.heap.size w w' := by
  go_enter Tryd.func42, Tryd.ntmps42
  go_wp2_with fail
  refine (devOk_s_any 6 n p _).mono ?_
  rintro e w1 ⟨rfl, hb1⟩
  have b1 := (Box.new w #[.int .i64 6, .int .i64 n, .int .i64 p] 40).kept hb1
  have c0 : w1.cell? ⟨w.heap.size, 0, none⟩ = some (.int .i64 6) := b1.cell 0
  have hB : Below w.heap.size w w1 := bel_step ((Below.refl _ _).alloc (Nat.le_refl _) _) hb1 (by simp)
  clear hb1 b1
  go_wp2
  go_ret
  exact ⟨rfl, hB⟩
set_option maxRecDepth 100000 in
set_option maxHeartbeats 400000 in
theorem devIsBit_s_7 (n p : Int) (hok : DevP.ok 7 n p = true) (w : World) : Calls Tryd.prog 42 #[.agg #[.int .i64 7, .int .i64 n, .int .i64 p]] w fun e w' => e = .returned (.bool true) ∧ Below w.heap.size w w' := by
  go_enter Tryd.func42, Tryd.ntmps42
  go_wp2_with fail
  refine (devOk_s_any 7 n p _).mono ?_
  rintro e w1 ⟨rfl, hb1⟩
  have b1 := (Box.new w #[.int .i64 7, .int .i64 n, .int .i64 p] 40).kept hb1
  have c0 : w1.cell? ⟨w.heap.size, 0, none⟩ = some (.int .i64 7) := b1.cell 0
  have hB : Below w.heap.size w w1 := bel_step ((Below.refl _ _).alloc (Nat.le_refl _) _) hb1 (by simp)
  clear hb1 b1
  go_wp2
  go_ret
  exact ⟨rfl, hB⟩
set_option maxRecDepth 100000 in
set_option maxHeartbeats 400000 in
theorem devIsBit_s_8 (n p : Int) (hok : DevP.ok 8 n p = true) (w : World) : Calls Tryd.prog 42 #[.agg #[.int .i64 8, .int .i64 n, .int .i64 p]] w fun e w' => e = .returned (.bool true) ∧ Below w.heap.size w w' := by
  go_enter Tryd.func42, Tryd.ntmps42
  go_wp2_with fail
  refine (devOk_s_any 8 n p _).mono ?_
  rintro e w1 ⟨rfl, hb1⟩
  have b1 := (Box.new w #[.int .i64 8, .int .i64 n, .int .i64 p] 40).kept hb1
  have c0 : w1.cell? ⟨w.heap.size, 0, none⟩ = some (.int .i64 8) := b1.cell 0
  have hB : Below w.heap.size w w1 := bel_step ((Below.refl _ _).alloc (Nat.le_refl _) _) hb1 (by simp)
  clear hb1 b1
  go_wp2
  go_ret
  exact ⟨rfl, hB⟩
set_option maxRecDepth 100000 in
set_option maxHeartbeats 400000 in
theorem devIsBit_s_9 (n p : Int) (hok : DevP.ok 9 n p = true) (w : World) : Calls Tryd.prog 42 #[.agg #[.int .i64 9, .int .i64 n, .int .i64 p]] w fun e w' => e = .returned (.bool false) ∧ Below w.heap.size w w' := by
  go_enter Tryd.func42, Tryd.ntmps42
  go_wp2_with fail
  refine (devOk_s_any 9 n p _).mono ?_
  rintro e w1 ⟨rfl, hb1⟩
  have b1 := (Box.new w #[.int .i64 9, .int .i64 n, .int .i64 p] 40).kept hb1
  have c0 : w1.cell? ⟨w.heap.size, 0, none⟩ = some (.int .i64 9) := b1.cell 0
  have hB : Below w.heap.size w w1 := bel_step ((Below.refl _ _).alloc (Nat.le_refl _) _) hb1 (by simp)
  clear hb1 b1
  go_wp2
  go_ret
  exact ⟨rfl, hB⟩
set_option maxRecDepth 100000 in
set_option maxHeartbeats 400000 in
theorem devIsBit_s_10 (n p : Int) (hok : DevP.ok 10 n p = true) (w : World) : Calls Tryd.prog 42 #[.agg #[.int .i64 10, .int .i64 n, .int .i64 p]] w fun e w' => e = .returned (.bool false) ∧ Below w.heap.size w w' := by
  go_enter Tryd.func42, Tryd.ntmps42
  go_wp2_with fail
  refine (devOk_s_any 10 n p _).mono ?_
  rintro e w1 ⟨rfl, hb1⟩
  have b1 := (Box.new w #[.int .i64 10, .int .i64 n, .int .i64 p] 40).kept hb1
  have c0 : w1.cell? ⟨w.heap.size, 0, none⟩ = some (.int .i64 10) := b1.cell 0
  have hB : Below w.heap.size w w1 := bel_step ((Below.refl _ _).alloc (Nat.le_refl _) _) hb1 (by simp)
  clear hb1 b1
  go_wp2
  go_ret
  exact ⟨rfl, hB⟩
set_option maxRecDepth 100000 in
set_option maxHeartbeats 400000 in
theorem devIsBit_s_11 (n p : Int) (hok : DevP.ok 11 n p = true) (w : World) : Calls Tryd.prog 42 #[.agg #[.int .i64 11, .int .i64 n, .int .i64 p]] w fun e w' => e = .returned (.bool false) ∧ Below w.heap.size w w' := by
  go_enter Tryd.func42, Tryd.ntmps42
  go_wp2_with fail
  refine (devOk_s_any 11 n p _).mono ?_
  rintro e w1 ⟨rfl, hb1⟩
  have b1 := (Box.new w #[.int .i64 11, .int .i64 n, .int .i64 p] 40).kept hb1
  have c0 : w1.cell? ⟨w.heap.size, 0, none⟩ = some (.int .i64 11) := b1.cell 0
  have hB : Below w.heap.size w w1 := bel_step ((Below.refl _ _).alloc (Nat.le_refl _) _) hb1 (by simp)
  clear hb1 b1
  go_wp2
  go_ret
  exact ⟨rfl, hB⟩
set_option maxRecDepth 100000 in
set_option maxHeartbeats 400000 in
theorem devIsBit_s_12 (n p : Int) (hok : DevP.ok 12 n p = true) (w : World) : Calls Tryd.prog 42 #[.agg #[.int .i64 12, .int .i64 n, .int .i64 p]] w fun e w' => e = .returned (.bool false) ∧ Below w.heap.size w w' := by
  go_enter Tryd.func42, Tryd.ntmps42
  go_wp2_with fail
  refine (devOk_s_any 12 n p _).mono ?_
  rintro e w1 ⟨rfl, hb1⟩
  have b1 := (Box.new w #[.int .i64 12, .int .i64 n, .int .i64 p] 40).kept hb1
  have c0 : w1.cell? ⟨w.heap.size, 0, none⟩ = some (.int .i64 12) := b1.cell 0
  have hB : Below w.heap.size w w1 := bel_step ((Below.refl _ _).alloc (Nat.le_refl _) _) hb1 (by simp)
  clear hb1 b1
  go_wp2
  go_ret
  exact ⟨rfl, hB⟩
set_option maxRecDepth 100000 in
set_option maxHeartbeats 400000 in
theorem devIsBit_s_13 (n p : Int) (hok : DevP.ok 13 n p = true) (w : World) : Calls Tryd.prog 42 #[.agg #[.int .i64 13, .int .i64 n, .int .i64 p]] w fun e w' => e = .returned (.bool false) ∧ Below w.heap.size w w' := by
  go_enter Tryd.func42, Tryd.ntmps42
  go_wp2_with fail
  refine (devOk_s_any 13 n p _).mono ?_
  rintro e w1 ⟨rfl, hb1⟩
  have b1 := (Box.new w #[.int .i64 13, .int .i64 n, .int .i64 p] 40).kept hb1
  have c0 : w1.cell? ⟨w.heap.size, 0, none⟩ = some (.int .i64 13) := b1.cell 0
  have hB : Below w.heap.size w w1 := bel_step ((Below.refl _ _).alloc (Nat.le_refl _) _) hb1 (by simp)
  clear hb1 b1
  go_wp2
  go_ret
  exact ⟨rfl, hB⟩
theorem devIsBit_s_any (k n p : Int) (w : World) : Calls Tryd.prog 42 #[.agg #[.int .i64 k, .int .i64 n, .int .i64 p]] w fun e w' => e = .returned (.bool (DevP.isBit k n p)) ∧ Below w.heap.size w w' := by
  cases hok : DevP.ok k n p
  · rw [show DevP.isBit k n p = false by unfold DevP.isBit; rw [hok]; rfl]; exact devIsBit_s_no k n p hok w
  · have hr := DevP.ok_range hok
    have hk : k = 1 ∨ k = 2 ∨ k = 3 ∨ k = 4 ∨ k = 5 ∨ k = 6 ∨ k = 7 ∨ k = 8 ∨ k = 9 ∨ k = 10 ∨ k = 11 ∨ k = 12 ∨ k = 13 := by omega
    rcases hk with rfl | rfl | rfl | rfl | rfl | rfl | rfl | rfl | rfl | rfl | rfl | rfl | rfl
    · rw [show DevP.isBit 1 n p = true by unfold DevP.isBit; rw [hok]; decide]; exact devIsBit_s_1 n p hok w
    · rw [show DevP.isBit 2 n p = true by unfold DevP.isBit; rw [hok]; decide]; exact devIsBit_s_2 n p hok w
    · rw [show DevP.isBit 3 n p = true by unfold DevP.isBit; rw [hok]; decide]; exact devIsBit_s_3 n p hok w
    · rw [show DevP.isBit 4 n p = true by unfold DevP.isBit; rw [hok]; decide]; exact devIsBit_s_4 n p hok w
    · rw [show DevP.isBit 5 n p = false by unfold DevP.isBit; rw [hok]; decide]; exact devIsBit_s_5 n p hok w
    · rw [show DevP.isBit 6 n p = true by unfold DevP.isBit; rw [hok]; decide]; exact devIsBit_s_6 n p hok w
    · rw [show DevP.isBit 7 n p = true by unfold DevP.isBit; rw [hok]; decide]; exact devIsBit_s_7 n p hok w
    · rw [show DevP.isBit 8 n p = true by unfold DevP.isBit; rw [hok]; decide]; exact devIsBit_s_8 n p hok w
    · rw [show DevP.isBit 9 n p = false by unfold DevP.isBit; rw [hok]; decide]; exact devIsBit_s_9 n p hok w
    · rw [show DevP.isBit 10 n p = false by unfold DevP.isBit; rw [hok]; decide]; exact devIsBit_s_10 n p hok w
    · rw [show DevP.isBit 11 n p = false by unfold DevP.isBit; rw [hok]; decide]; exact devIsBit_s_11 n p hok w
    · rw [show DevP.isBit 12 n p = false by unfold DevP.isBit; rw [hok]; decide]; exact devIsBit_s_12 n p hok w
    · rw [show DevP.isBit 13 n p = false by unfold DevP.isBit; rw [hok]; decide]; exact devIsBit_s_13 n p hok w
set_option maxRecDepth 100000 in
set_option maxHeartbeats 400000 in
theorem devIsBit_i_low (k n p : Int) (h : k < 1) (w : World) : Calls Tryd.prog 32 #[.agg #[.int .i64 k, .int .i64 n, .int .i64 p]] w fun e w' => e = .returned (.bool false) ∧ Below w.heap.size w w' := by
  go_enter Tryd.func32, Tryd.ntmps32
  go_wp2
  go_ret
  exact ⟨rfl, by repeat (first | exact Below.refl _ _ | refine Below.alloc ?_ (by first | (simp; done) | (simp; omega) | omega) _ | refine Below.drew ?_ | refine Bx.bel_drewN ?_ _ | refine Below.setCell ?_ (by first | (simp; done) | (simp; omega) | omega) _)⟩
set_option maxRecDepth 100000 in
set_option maxHeartbeats 400000 in
theorem devIsBit_i_high (k n p : Int) (h : 13 < k) (w : World) : Calls Tryd.prog 32 #[.agg #[.int .i64 k, .int .i64 n, .int .i64 p]] w fun e w' => e = .returned (.bool false) ∧ Below w.heap.size w w' := by
  go_enter Tryd.func32, Tryd.ntmps32
  go_wp2
  go_ret
  exact ⟨rfl, by repeat (first | exact Below.refl _ _ | refine Below.alloc ?_ (by first | (simp; done) | (simp; omega) | omega) _ | refine Below.drew ?_ | refine Bx.bel_drewN ?_ _ | refine Below.setCell ?_ (by first | (simp; done) | (simp; omega) | omega) _)⟩
set_option maxRecDepth 100000 in
set_option maxHeartbeats 400000 in
theorem devIsBit_i_1 (n p : Int)  (w : World) : Calls Tryd.prog 32 #[.agg #[.int .i64 1, .int .i64 n, .int .i64 p]] w fun e w' => e = .returned (.bool (DevP.ok 1 n p)) ∧ Below w.heap.size w w' := by
  go_enter Tryd.func32, Tryd.ntmps32
  go_wp2_with fail
  refine (devOk_i_any 1 n p _).mono ?_
  rintro e w1 ⟨rfl, hb1⟩
  have b1 := (Box.new w #[.int .i64 1, .int .i64 n, .int .i64 p] 40).kept hb1
  have c0 : w1.cell? ⟨w.heap.size, 0, none⟩ = some (.int .i64 1) := b1.cell 0
  have hB : Below w.heap.size w w1 := bel_step ((Below.refl _ _).alloc (Nat.le_refl _) _) hb1 (by simp)
  clear hb1 b1
  go_wp2
  go_ret
  exact ⟨rfl, hB⟩
set_option maxRecDepth 100000 in
set_option maxHeartbeats 400000 in
theorem devIsBit_i_2 (n p : Int)  (w : World) : Calls Tryd.prog 32 #[.agg #[.int .i64 2, .int .i64 n, .int .i64 p]] w fun e w' => e = .returned (.bool (DevP.ok 2 n p)) ∧ Below w.heap.size w w' := by
  go_enter Tryd.func32, Tryd.ntmps32
  go_wp2_with fail
  refine (devOk_i_any 2 n p _).mono ?_
  rintro e w1 ⟨rfl, hb1⟩
  have b1 := (Box.new w #[.int .i64 2, .int .i64 n, .int .i64 p] 40).kept hb1
  have c0 : w1.cell? ⟨w.heap.size, 0, none⟩ = some (.int .i64 2) := b1.cell 0
  have hB : Below w.heap.size w w1 := bel_step ((Below.refl _ _).alloc (Nat.le_refl _) _) hb1 (by simp)
  clear hb1 b1
  go_wp2
  go_ret
  exact ⟨rfl, hB⟩
set_option maxRecDepth 100000 in
set_option maxHeartbeats 400000 in
theorem devIsBit_i_3 (n p : Int)  (w : World) : Calls Tryd.prog 32 #[.agg #[.int .i64 3, .int .i64 n, .int .i64 p]] w fun e w' => e = .returned (.bool (DevP.ok 3 n p)) ∧ Below w.heap.size w w' := by
  go_enter Tryd.func32, Tryd.ntmps32
  go_wp2_with fail
  refine (devOk_i_any 3 n p _).mono ?_
  rintro e w1 ⟨rfl, hb1⟩
  have b1 := (Box.new w #[.int .i64 3, .int .i64 n, .int .i64 p] 40).kept hb1
  have c0 : w1.cell? ⟨w.heap.size, 0, none⟩ = some (.int .i64 3) := b1.cell 0
  have hB : Below w.heap.size w w1 := bel_step ((Below.refl _ _).alloc (Nat.le_refl _) _) hb1 (by simp)
  clear hb1 b1
  go_wp2
  go_ret
  exact ⟨rfl, hB⟩
set_option maxRecDepth 100000 in
set_option maxHeartbeats 400000 in
theorem devIsBit_i_4 (n p : Int)  (w : World) : Calls Tryd.prog 32 #[.agg #[.int .i64 4, .int .i64 n, .int .i64 p]] w fun e w' => e = .returned (.bool (DevP.ok 4 n p)) ∧ Below w.heap.size w w' := by
  go_enter Tryd.func32, Tryd.ntmps32
  go_wp2_with fail
  refine (devOk_i_any 4 n p _).mono ?_
  rintro e w1 ⟨rfl, hb1⟩
  have b1 := (Box.new w #[.int .i64 4, .int .i64 n, .int .i64 p] 40).kept hb1
  have c0 : w1.cell? ⟨w.heap.size, 0, none⟩ = some (.int .i64 4) := b1.cell 0
  have hB : Below w.heap.size w w1 := bel_step ((Below.refl _ _).alloc (Nat.le_refl _) _) hb1 (by simp)
  clear hb1 b1
  go_wp2
  go_ret
  exact ⟨rfl, hB⟩
set_option maxRecDepth 100000 in
set_option maxHeartbeats 400000 in
theorem devIsBit_i_5 (n p : Int)  (w : World) : Calls Tryd.prog 32 #[.agg #[.int .i64 5, .int .i64 n, .int .i64 p]] w fun e w' => e = .returned (.bool false) ∧ Below w.heap.size w w' := by
  go_enter Tryd.func32, Tryd.ntmps32
  go_wp2
  go_ret
  exact ⟨rfl, by repeat (first | exact Below.refl _ _ | refine Below.alloc ?_ (by first | (simp; done) | (simp; omega) | omega) _ | refine Below.drew ?_ | refine Bx.bel_drewN ?_ _ | refine Below.setCell ?_ (by first | (simp; done) | (simp; omega) | omega) _)⟩
set_option maxRecDepth 100000 in
set_option maxHeartbeats 400000 in
theorem devIsBit_i_6 (n p : Int)  (w : World) : Calls Tryd.prog 32 #[.agg #[.int .i64 6, .int .i64 n, .int .i64 p]] w fun e w' => e = .returned (.bool (DevP.ok 6 n p)) ∧ Below w.heap.size w w' := by
  go_enter Tryd.func32, Tryd.ntmps32
  go_wp2_with fail
  refine (devOk_i_any 6 n p _).mono ?_
  rintro e w1 ⟨rfl, hb1⟩
  have b1 := (Box.new w #[.int .i64 6, .int .i64 n, .int .i64 p] 40).kept hb1
  have c0 : w1.cell? ⟨w.heap.size, 0, none⟩ = some (.int .i64 6) := b1.cell 0
  have hB : Below w.heap.size w w1 := bel_step ((Below.refl _ _).alloc (Nat.le_refl _) _) hb1 (by simp)
  clear hb1 b1
  go_wp2
  go_ret
  exact ⟨rfl, hB⟩
set_option maxRecDepth 100000 in
set_option maxHeartbeats 400000 in
theorem devIsBit_i_7 (n p : Int)  (w : World) : Calls Tryd.prog 32 #[.agg #[.int .i64 7, .int .i64 n, .int .i64 p]] w fun e w' => e = .returned (.bool (DevP.ok 7 n p)) ∧ Below w.heap.size w w' := by
  go_enter Tryd.func32, Tryd.ntmps32
  go_wp2_with fail
  refine (devOk_i_any 7 n p _).mono ?_
  rintro e w1 ⟨rfl, hb1⟩
  have b1 := (Box.new w #[.int .i64 7, .int .i64 n, .int .i64 p] 40).kept hb1
  have c0 : w1.cell? ⟨w.heap.size, 0, none⟩ = some (.int .i64 7) := b1.cell 0
  have hB : Below w.heap.size w w1 := bel_step ((Below.refl _ _).alloc (Nat.le_refl _) _) hb1 (by simp)
  clear hb1 b1
  go_wp2
  go_ret
  exact ⟨rfl, hB⟩
set_option maxRecDepth 100000 in
set_option maxHeartbeats 400000 in
theorem devIsBit_i_8 (n p : Int)  (w : World) : Calls Tryd.prog 32 #[.agg #[.int .i64 8, .int .i64 n, .int .i64 p]] w fun e w' => e = .returned (.bool (DevP.ok 8 n p)) ∧ Below w.heap.size w w' := by
  go_enter Tryd.func32, Tryd.ntmps32
  go_wp2_with fail
  refine (devOk_i_any 8 n p _).mono ?_
  rintro e w1 ⟨rfl, hb1⟩
  have b1 := (Box.new w #[.int .i64 8, .int .i64 n, .int .i64 p] 40).kept hb1
  have c0 : w1.cell? ⟨w.heap.size, 0, none⟩ = some (.int .i64 8) := b1.cell 0
  have hB : Below w.heap.size w w1 := bel_step ((Below.refl _ _).alloc (Nat.le_refl _) _) hb1 (by simp)
  clear hb1 b1
  go_wp2
  go_ret
  exact ⟨rfl, hB⟩
set_option maxRecDepth 100000 in
set_option maxHeartbeats 400000 in
theorem devIsBit_i_9 (n p : Int)  (w : World) : Calls Tryd.prog 32 #[.agg #[.int .i64 9, .int .i64 n, .int .i64 p]] w fun e w' => e = .returned (.bool false) ∧ Below w.heap.size w w' := by
  go_enter Tryd.func32, Tryd.ntmps32
  go_wp2
  go_ret
  exact ⟨rfl, by repeat (first | exact Below.refl _ _ | refine Below.alloc ?_ (by first | (simp; done) | (simp; omega) | omega) _ | refine Below.drew ?_ | refine Bx.bel_drewN ?_ _ | refine Below.setCell ?_ (by first | (simp; done) | (simp; omega) | omega) _)⟩
set_option maxRecDepth 100000 in
set_option maxHeartbeats 400000 in
theorem devIsBit_i_10 (n p : Int)  (w : World) : Calls Tryd.prog 32 #[.agg #[.int .i64 10, .int .i64 n, .int .i64 p]] w fun e w' => e = .returned (.bool false) ∧ Below w.heap.size w w' := by
  go_enter Tryd.func32, Tryd.ntmps32
  go_wp2
  go_ret
  exact ⟨rfl, by repeat (first | exact Below.refl _ _ | refine Below.alloc ?_ (by first | (simp; done) | (simp; omega) | omega) _ | refine Below.drew ?_ | refine Bx.bel_drewN ?_ _ | refine Below.setCell ?_ (by first | (simp; done) | (simp; omega) | omega) _)⟩
set_option maxRecDepth 100000 in
set_option maxHeartbeats 400000 in
theorem devIsBit_i_11 (n p : Int)  (w : World) : Calls Tryd.prog 32 #[.agg #[.int .i64 11, .int .i64 n, .int .i64 p]] w fun e w' => e = .returned (.bool false) ∧ Below w.heap.size w w' := by
  go_enter Tryd.func32, Tryd.ntmps32
  go_wp2
  go_ret
  exact ⟨rfl, by repeat (first | exact Below.refl _ _ | refine Below.alloc ?_ (by first | (simp; done) | (simp; omega) | omega) _ | refine Below.drew ?_ | refine Bx.bel_drewN ?_ _ | refine Below.setCell ?_ (by first | (simp; done) | (simp; omega) | omega) _)⟩
set_option maxRecDepth 100000 in
set_option maxHeartbeats 400000 in
theorem devIsBit_i_12 (n p : Int)  (w : World) : Calls Tryd.prog 32 #[.agg #[.int .i64 12, .int .i64 n, .int .i64 p]] w fun e w' => e = .returned (.bool false) ∧ Below w.heap.size w w' := by
  go_enter Tryd.func32, Tryd.ntmps32
  go_wp2
  go_ret
  exact ⟨rfl, by repeat (first | exact Below.refl _ _ | refine Below.alloc ?_ (by first | (simp; done) | (simp; omega) | omega) _ | refine Below.drew ?_ | refine Bx.bel_drewN ?_ _ | refine Below.setCell ?_ (by first | (simp; done) | (simp; omega) | omega) _)⟩
set_option maxRecDepth 100000 in
set_option maxHeartbeats 400000 in
theorem devIsBit_i_13 (n p : Int)  (w : World) : Calls Tryd.prog 32 #[.agg #[.int .i64 13, .int .i64 n, .int .i64 p]] w fun e w' => e = .returned (.bool false) ∧ Below w.heap.size w w' := by
  go_enter Tryd.func32, Tryd.ntmps32
  go_wp2
  go_ret
  exact ⟨rfl, by repeat (first | exact Below.refl _ _ | refine Below.alloc ?_ (by first | (simp; done) | (simp; omega) | omega) _ | refine Below.drew ?_ | refine Bx.bel_drewN ?_ _ | refine Below.setCell ?_ (by first | (simp; done) | (simp; omega) | omega) _)⟩
theorem devIsBit_i_any (k n p : Int) (w : World) : Calls Tryd.prog 32 #[.agg #[.int .i64 k, .int .i64 n, .int .i64 p]] w fun e w' => e = .returned (.bool (DevP.isBit k n p)) ∧ Below w.heap.size w w' := by
  by_cases hl : k < 1
  · rw [show DevP.isBit k n p = false by unfold DevP.isBit; rw [DevP.ok_low hl]; rfl]; exact devIsBit_i_low k n p hl w
  by_cases hh : 13 < k
  · rw [show DevP.isBit k n p = false by unfold DevP.isBit; rw [DevP.ok_high hh]; rfl]; exact devIsBit_i_high k n p hh w
  have hk : k = 1 ∨ k = 2 ∨ k = 3 ∨ k = 4 ∨ k = 5 ∨ k = 6 ∨ k = 7 ∨ k = 8 ∨ k = 9 ∨ k = 10 ∨ k = 11 ∨ k = 12 ∨ k = 13 := by omega
  rcases hk with rfl | rfl | rfl | rfl | rfl | rfl | rfl | rfl | rfl | rfl | rfl | rfl | rfl
  · rw [show DevP.isBit 1 n p = DevP.ok 1 n p by unfold DevP.isBit; cases DevP.ok 1 n p <;> decide]; exact devIsBit_i_1 n p w
  · rw [show DevP.isBit 2 n p = DevP.ok 2 n p by unfold DevP.isBit; cases DevP.ok 2 n p <;> decide]; exact devIsBit_i_2 n p w
  · rw [show DevP.isBit 3 n p = DevP.ok 3 n p by unfold DevP.isBit; cases DevP.ok 3 n p <;> decide]; exact devIsBit_i_3 n p w
  · rw [show DevP.isBit 4 n p = DevP.ok 4 n p by unfold DevP.isBit; cases DevP.ok 4 n p <;> decide]; exact devIsBit_i_4 n p w
  · rw [show DevP.isBit 5 n p = false by unfold DevP.isBit; cases DevP.ok 5 n p <;> decide]; exact devIsBit_i_5 n p w
  · rw [show DevP.isBit 6 n p = DevP.ok 6 n p by unfold DevP.isBit; cases DevP.ok 6 n p <;> decide]; exact devIsBit_i_6 n p w
  · rw [show DevP.isBit 7 n p = DevP.ok 7 n p by unfold DevP.isBit; cases DevP.ok 7 n p <;> decide]; exact devIsBit_i_7 n p w
  · rw [show DevP.isBit 8 n p = DevP.ok 8 n p by unfold DevP.isBit; cases DevP.ok 8 n p <;> decide]; exact devIsBit_i_8 n p w
  · rw [show DevP.isBit 9 n p = false by unfold DevP.isBit; cases DevP.ok 9 n p <;> decide]; exact devIsBit_i_9 n p w
  · rw [show DevP.isBit 10 n p = false by unfold DevP.isBit; cases DevP.ok 10 n p <;> decide]; exact devIsBit_i_10 n p w
  · rw [show DevP.isBit 11 n p = false by unfold DevP.isBit; cases DevP.ok 11 n p <;> decide]; exact devIsBit_i_11 n p w
  · rw [show DevP.isBit 12 n p = false by unfold DevP.isBit; cases DevP.ok 12 n p <;> decide]; exact devIsBit_i_12 n p w
  · rw [show DevP.isBit 13 n p = false by unfold DevP.isBit; cases DevP.ok 13 n p <;> decide]; exact devIsBit_i_13 n p w
set_option maxRecDepth 100000 in
set_option maxHeartbeats 400000 in
theorem devIsWhole_s_no (k n p : Int) (hok : DevP.ok k n p = false) (w : World) : Calls Tryd.prog 44 #[.agg #[.int .i64 k, .int .i64 n, .int .i64 p]] w fun e w' => e = .returned (.bool false) ∧ Below w.heap.size w w' := by
  go_enter Tryd.func44, Tryd.ntmps44
  go_wp2_with fail
  refine (devOk_s_any k n p _).mono ?_
  rintro e w1 ⟨rfl, hb1⟩
  have b1 := (Box.new w #[.int .i64 k, .int .i64 n, .int .i64 p] 40).kept hb1
  have c0 : w1.cell? ⟨w.heap.size, 0, none⟩ = some (.int .i64 k) := b1.cell 0
  have hB : Below w.heap.size w w1 := bel_step ((Below.refl _ _).alloc (Nat.le_refl _) _) hb1 (by simp)
  clear hb1 b1
  go_wp2
  go_ret
  exact ⟨rfl, hB⟩
set_option maxRecDepth 100000 in
set_option maxHeartbeats 400000 in
theorem devIsWhole_s_1 (n p : Int) (hok : DevP.ok 1 n p = true) (w : World) : Calls Tryd.prog 44 #[.agg #[.int .i64 1, .int .i64 n, .int .i64 p]] w fun e w' => e = .returned (.bool false) ∧ Below w.heap.size w w' := by
  go_enter Tryd.func44, Tryd.ntmps44
  go_wp2_with fail
  refine (devOk_s_any 1 n p _).mono ?_
  rintro e w1 ⟨rfl, hb1⟩
  have b1 := (Box.new w #[.int .i64 1, .int .i64 n, .int .i64 p] 40).kept hb1
  have c0 : w1.cell? ⟨w.heap.size, 0, none⟩ = some (.int .i64 1) := b1.cell 0
  have hB : Below w.heap.size w w1 := bel_step ((Below.refl _ _).alloc (Nat.le_refl _) _) hb1 (by simp)
  clear hb1 b1
  go_wp2
  go_ret
  exact ⟨rfl, hB⟩
set_option maxRecDepth 100000 in
set_option maxHeartbeats 400000 in
theorem devIsWhole_s_2 (n p : Int) (hok : DevP.ok 2 n p = true) (w : World) : Calls Tryd.prog 44 #[.agg #[.int .i64 2, .int .i64 n, .int .i64 p]] w fun e w' => e = .returned (.bool false) ∧ Below w.heap.size w w' := by
  go_enter Tryd.func44, Tryd.ntmps44
  go_wp2_with fail
  refine (devOk_s_any 2 n p _).mono ?_
  rintro e w1 ⟨rfl, hb1⟩
  have b1 := (Box.new w #[.int .i64 2, .int .i64 n, .int .i64 p] 40).kept hb1
  have c0 : w1.cell? ⟨w.heap.size, 0, none⟩ = some (.int .i64 2) := b1.cell 0
  have hB : Below w.heap.size w w1 := bel_step ((Below.refl _ _).alloc (Nat.le_refl _) _) hb1 (by simp)
  clear hb1 b1
  go_wp2
  go_ret
  exact ⟨rfl, hB⟩
set_option maxRecDepth 100000 in
set_option maxHeartbeats 400000 in
theorem devIsWhole_s_3 (n p : Int) (hok : DevP.ok 3 n p = true) (w : World) : Calls Tryd.prog 44 #[.agg #[.int .i64 3, .int .i64 n, .int .i64 p]] w fun e w' => e = .returned (.bool false) ∧ Below w.heap.size w w' := by
  go_enter Tryd.func44, Tryd.ntmps44
  go_wp2_with fail
  refine (devOk_s_any 3 n p _).mono ?_
  rintro e w1 ⟨rfl, hb1⟩
  have b1 := (Box.new w #[.int .i64 3, .int .i64 n, .int .i64 p] 40).kept hb1
  have c0 : w1.cell? ⟨w.heap.size, 0, none⟩ = some (.int .i64 3) := b1.cell 0
  have hB : Below w.heap.size w w1 := bel_step ((Below.refl _ _).alloc (Nat.le_refl _) _) hb1 (by simp)
  clear hb1 b1
  go_wp2
  go_ret
  exact ⟨rfl, hB⟩
set_option maxRecDepth 100000 in
set_option maxHeartbeats 400000 in
theorem devIsWhole_s_4 (n p : Int) (hok : DevP.ok 4 n p = true) (w : World) : Calls Tryd.prog 44 #[.agg #[.int .i64 4, .int .i64 n, .int .i64 p]] w fun e w' => e = .returned (.bool false) ∧ Below w.heap.size w w' := by
  go_enter Tryd.func44, Tryd.ntmps44
  go_wp2_with fail
  refine (devOk_s_any 4 n p _).mono ?_
  rintro e w1 ⟨rfl, hb1⟩
  have b1 := (Box.new w #[.int .i64 4, .int .i64 n, .int .i64 p] 40).kept hb1
  have c0 : w1.cell? ⟨w.heap.size, 0, none⟩ = some (.int .i64 4) := b1.cell 0
  have hB : Below w.heap.size w w1 := bel_step ((Below.refl _ _).alloc (Nat.le_refl _) _) hb1 (by simp)
  clear hb1 b1
  go_wp2
  go_ret
  exact ⟨rfl, hB⟩
set_option maxRecDepth 100000 in
set_option maxHeartbeats 400000 in
theorem devIsWhole_s_5 (n p : Int) (hok : DevP.ok 5 n p = true) (w : World) : Calls Tryd.prog 44 #[.agg #[.int .i64 5, .int .i64 n, .int .i64 p]] w fun e w' => e = .returned (.bool false) ∧ Below w.heap.size w w' := by
  go_enter Tryd.func44, Tryd.ntmps44
  go_wp2_with fail
  refine (devOk_s_any 5 n p _).mono ?_
  rintro e w1 ⟨rfl, hb1⟩
  have b1 := (Box.new w #[.int .i64 5, .int .i64 n, .int .i64 p] 40).kept hb1
  have c0 : w1.cell? ⟨w.heap.size, 0, none⟩ = some (.int .i64 5) := b1.cell 0
  have hB : Below w.heap.size w w1 := bel_step ((Below.refl _ _).alloc (Nat.le_refl _) _) hb1 (by simp)
  clear hb1 b1
  go_wp2
  go_ret
  exact ⟨rfl, hB⟩
set_option maxRecDepth 100000 in
set_option maxHeartbeats 400000 in
theorem devIsWhole_s_6 (n p : Int) (hok : DevP.ok 6 n p = true) (w : World) : Calls Tryd.prog 44 #[.agg #[.int .i64 6, .int .i64 n, .int .i64 p]] w fun e w' => e = .returned (.bool false) ∧ Below w.heap.size w w' := by
  go_enter Tryd.func44, Tryd.ntmps44
  go_wp2_with fail
  refine (devOk_s_any 6 n p _).mono ?_
  rintro e w1 ⟨rfl, hb1⟩
  have b1 := (Box.new w #[.int .i64 6, .int .i64 n, .int .i64 p] 40).kept hb1
  have c0 : w1.cell? ⟨w.heap.size, 0, none⟩ = some (.int .i64 6) := b1.cell 0
  have hB : Below w.heap.size w w1 := bel_step ((Below.refl _ _).alloc (Nat.le_refl _) _) hb1 (by simp)
  clear hb1 b1
  go_wp2
  go_ret
  exact ⟨rfl, hB⟩
set_option maxRecDepth 100000 in
set_option maxHeartbeats 400000 in
theorem devIsWhole_s_7 (n p : Int) (hok : DevP.ok 7 n p = true) (w : World) : Calls Tryd.prog 44 #[.agg #[.int .i64 7, .int .i64 n, .int .i64 p]] w fun e w' => e = .returned (.bool true) ∧ Below w.heap.size w w' := by
  go_enter Tryd.func44, Tryd.ntmps44
  go_wp2_with fail
  refine (devOk_s_any 7 n p _).mono ?_
  rintro e w1 ⟨rfl, hb1⟩
  have b1 := (Box.new w #[.int .i64 7, .int .i64 n, .int .i64 p] 40).kept hb1
  have c0 : w1.cell? ⟨w.heap.size, 0, none⟩ = some (.int .i64 7) := b1.cell 0
  have hB : Below w.heap.size w w1 := bel_step ((Below.refl _ _).alloc (Nat.le_refl _) _) hb1 (by simp)
  clear hb1 b1
  go_wp2
  go_ret
  exact ⟨rfl, hB⟩
set_option maxRecDepth 100000 in
set_option maxHeartbeats 400000 in
theorem devIsWhole_s_8 (n p : Int) (hok : DevP.ok 8 n p = true) (w : World) : Calls Tryd.prog 44 #[.agg #[.int .i64 8, .int .i64 n, .int .i64 p]] w fun e w' => e = .returned (.bool true) ∧ Below w.heap.size w w' := by
  go_enter Tryd.func44, Tryd.ntmps44
  go_wp2_with fail
  refine (devOk_s_any 8 n p _).mono ?_
  rintro e w1 ⟨rfl, hb1⟩
  have b1 := (Box.new w #[.int .i64 8, .int .i64 n, .int .i64 p] 40).kept hb1
  have c0 : w1.cell? ⟨w.heap.size, 0, none⟩ = some (.int .i64 8) := b1.cell 0
  have hB : Below w.heap.size w w1 := bel_step ((Below.refl _ _).alloc (Nat.le_refl _) _) hb1 (by simp)
  clear hb1 b1
  go_wp2
  go_ret
  exact ⟨rfl, hB⟩
set_option maxRecDepth 100000 in
set_option maxHeartbeats 400000 in
theorem devIsWhole_s_9 (n p : Int) (hok : DevP.ok 9 n p = true) (w : World) : Calls Tryd.prog 44 #[.agg #[.int .i64 9, .int .i64 n, .int .i64 p]] w fun e w' => e = .returned (.bool true) ∧ Below w.heap.size w w' := by
  go_enter Tryd.func44, Tryd.ntmps44
  go_wp2_with fail
  refine (devOk_s_any 9 n p _).mono ?_
  rintro e w1 ⟨rfl, hb1⟩
  have b1 := (Box.new w #[.int .i64 9, .int .i64 n, .int .i64 p] 40).kept hb1
  have c0 : w1.cell? ⟨w.heap.size, 0, none⟩ = some (.int .i64 9) := b1.cell 0
  have hB : Below w.heap.size w w1 := bel_step ((Below.refl _ _).alloc (Nat.le_refl _) _) hb1 (by simp)
  clear hb1 b1
  go_wp2
  go_ret
  exact ⟨rfl, hB⟩
set_option maxRecDepth 100000 in
set_option maxHeartbeats 400000 in
theorem devIsWhole_s_10 (n p : Int) (hok : DevP.ok 10 n p = true) (w : World) : Calls Tryd.prog 44 #[.agg #[.int .i64 10, .int .i64 n, .int .i64 p]] w fun e w' => e = .returned (.bool false) ∧ Below w.heap.size w w' := by
  go_enter Tryd.func44, Tryd.ntmps44
  go_wp2_with fail
  refine (devOk_s_any 10 n p _).mono ?_
  rintro e w1 ⟨rfl, hb1⟩
  have b1 := (Box.new w #[.int .i64 10, .int .i64 n, .int .i64 p] 40).kept hb1
  have c0 : w1.cell? ⟨w.heap.size, 0, none⟩ = some (.int .i64 10) := b1.cell 0
  have hB : Below w.heap.size w w1 := bel_step ((Below.refl _ _).alloc (Nat.le_refl _) _) hb1 (by simp)
  clear hb1 b1
  go_wp2
  go_ret
  exact ⟨rfl, hB⟩
set_option maxRecDepth 100000 in
set_option maxHeartbeats 400000 in
theorem devIsWhole_s_11 (n p : Int) (hok : DevP.ok 11 n p = true) (w : World) : Calls Tryd.prog 44 #[.agg #[.int .i64 11, .int .i64 n, .int .i64 p]] w fun e w' => e = .returned (.bool true) ∧ Below w.heap.size w w' := by
  go_enter Tryd.func44, Tryd.ntmps44
  go_wp2_with fail
  refine (devOk_s_any 11 n p _).mono ?_
  rintro e w1 ⟨rfl, hb1⟩
  have b1 := (Box.new w #[.int .i64 11, .int .i64 n, .int .i64 p] 40).kept hb1
  have c0 : w1.cell? ⟨w.heap.size, 0, none⟩ = some (.int .i64 11) := b1.cell 0
  have hB : Below w.heap.size w w1 := bel_step ((Below.refl _ _).alloc (Nat.le_refl _) _) hb1 (by simp)
  clear hb1 b1
  go_wp2
  go_ret
  exact ⟨rfl, hB⟩
set_option maxRecDepth 100000 in
set_option maxHeartbeats 400000 in
theorem devIsWhole_s_12 (n p : Int) (hok : DevP.ok 12 n p = true) (w : World) : Calls Tryd.prog 44 #[.agg #[.int .i64 12, .int .i64 n, .int .i64 p]] w fun e w' => e = .returned (.bool false) ∧ Below w.heap.size w w' := by
  go_enter Tryd.func44, Tryd.ntmps44
  go_wp2_with fail
  refine (devOk_s_any 12 n p _).mono ?_
  rintro e w1 ⟨rfl, hb1⟩
  have b1 := (Box.new w #[.int .i64 12, .int .i64 n, .int .i64 p] 40).kept hb1
  have c0 : w1.cell? ⟨w.heap.size, 0, none⟩ = some (.int .i64 12) := b1.cell 0
  have hB : Below w.heap.size w w1 := bel_step ((Below.refl _ _).alloc (Nat.le_refl _) _) hb1 (by simp)
  clear hb1 b1
  go_wp2
  go_ret
  exact ⟨rfl, hB⟩
set_option maxRecDepth 100000 in
set_option maxHeartbeats 400000 in
theorem devIsWhole_s_13 (n p : Int) (hok : DevP.ok 13 n p = true) (w : World) : Calls Tryd.prog 44 #[.agg #[.int .i64 13, .int .i64 n, .int .i64 p]] w fun e w' => e = .returned (.bool false) ∧ Below w.heap.size w w' := by
  go_enter Tryd.func44, Tryd.ntmps44
  go_wp2_with fail
  refine (devOk_s_any 13 n p _).mono ?_
  rintro e w1 ⟨rfl, hb1⟩
  have b1 := (Box.new w #[.int .i64 13, .int .i64 n, .int .i64 p] 40).kept hb1
  have c0 : w1.cell? ⟨w.heap.size, 0, none⟩ = some (.int .i64 13) := b1.cell 0
  have hB : Below w.heap.size w w1 := bel_step ((Below.refl _ _).alloc (Nat.le_refl _) _) hb1 (by simp)
  clear hb1 b1
  go_wp2
  go_ret
  exact ⟨rfl, hB⟩
theorem devIsWhole_s_any (k n p : Int) (w : World) : Calls Tryd.prog 44 #[.agg #[.int .i64 k, .int .i64 n, .int .i64 p]] w fun e w' => e = .returned (.bool (DevP.isWhole k n p)) ∧ Below w.heap.size w w' := by
  cases hok : DevP.ok k n p
  · rw [show DevP.isWhole k n p = false by unfold DevP.isWhole; rw [hok]; rfl]; exact devIsWhole_s_no k n p hok w
  · have hr := DevP.ok_range hok
    have hk : k = 1 ∨ k = 2 ∨ k = 3 ∨ k = 4 ∨ k = 5 ∨ k = 6 ∨ k = 7 ∨ k = 8 ∨ k = 9 ∨ k = 10 ∨ k = 11 ∨ k = 12 ∨ k = 13 := by omega
    rcases hk with rfl | rfl | rfl | rfl | rfl | rfl | rfl | rfl | rfl | rfl | rfl | rfl | rfl
    · rw [show DevP.isWhole 1 n p = false by unfold DevP.isWhole; rw [hok]; decide]; exact devIsWhole_s_1 n p hok w
    · rw [show DevP.isWhole 2 n p = false by unfold DevP.isWhole; rw [hok]; decide]; exact devIsWhole_s_2 n p hok w
    · rw [show DevP.isWhole 3 n p = false by unfold DevP.isWhole; rw [hok]; decide]; exact devIsWhole_s_3 n p hok w
    · rw [show DevP.isWhole 4 n p = false by unfold DevP.isWhole; rw [hok]; decide]; exact devIsWhole_s_4 n p hok w
    · rw [show DevP.isWhole 5 n p = false by unfold DevP.isWhole; rw [hok]; decide]; exact devIsWhole_s_5 n p hok w
    · rw [show DevP.isWhole 6 n p = false by unfold DevP.isWhole; rw [hok]; decide]; exact devIsWhole_s_6 n p hok w
    · rw [show DevP.isWhole 7 n p = true by unfold DevP.isWhole; rw [hok]; decide]; exact devIsWhole_s_7 n p hok w
    · rw [show DevP.isWhole 8 n p = true by unfold DevP.isWhole; rw [hok]; decide]; exact devIsWhole_s_8 n p hok w
    · rw [show DevP.isWhole 9 n p = true by unfold DevP.isWhole; rw [hok]; decide]; exact devIsWhole_s_9 n p hok w
    · rw [show DevP.isWhole 10 n p = false by unfold DevP.isWhole; rw [hok]; decide]; exact devIsWhole_s_10 n p hok w
    · rw [show DevP.isWhole 11 n p = true by unfold DevP.isWhole; rw [hok]; decide]; exact devIsWhole_s_11 n p hok w
    · rw [show DevP.isWhole 12 n p = false by unfold DevP.isWhole; rw [hok]; decide]; exact devIsWhole_s_12 n p hok w
    · rw [show DevP.isWhole 13 n p = false by unfold DevP.isWhole; rw [hok]; decide]; exact devIsWhole_s_13 n p hok w
set_option maxRecDepth 100000 in
set_option maxHeartbeats 400000 in
theorem devIsWhole_i_low (k n p : Int) (h : k < 1) (w : World) : Calls Tryd.prog 36 #[.agg #[.int .i64 k, .int .i64 n, .int .i64 p]] w fun e w' => e = .returned (.bool false) ∧ Below w.heap.size w w' := by
  go_enter Tryd.func36, Tryd.ntmps36
  go_wp2
  go_ret
  exact ⟨rfl, by repeat (first | exact Below.refl _ _ | refine Below.alloc ?_ (by first | (simp; done) | (simp; omega) | omega) _ | refine Below.drew ?_ | refine Bx.bel_drewN ?_ _ | refine Below.setCell ?_ (by first | (simp; done) | (simp; omega) | omega) _)⟩
set_option maxRecDepth 100000 in
set_option maxHeartbeats 400000 in
theorem devIsWhole_i_high (k n p : Int) (h : 13 < k) (w : World) : Calls Tryd.prog 36 #[.agg #[.int .i64 k, .int .i64 n, .int .i64 p]] w fun e w' => e = .returned (.bool false) ∧ Below w.heap.size w w' := by
  go_enter Tryd.func36, Tryd.ntmps36
  go_wp2
  go_ret
  exact ⟨rfl, by repeat (first | exact Below.refl _ _ | refine Below.alloc ?_ (by first | (simp; done) | (simp; omega) | omega) _ | refine Below.drew ?_ | refine Bx.bel_drewN ?_ _ | refine Below.setCell ?_ (by first | (simp; done) | (simp; omega) | omega) _)⟩
set_option maxRecDepth 100000 in
set_option maxHeartbeats 400000 in
theorem devIsWhole_i_1 (n p : Int)  (w : World) : Calls Tryd.prog 36 #[.agg #[.int .i64 1, .int .i64 n, .int .i64 p]] w fun e w' => e = .returned (.bool false) ∧ Below w.heap.size w w' := by
  go_enter Tryd.func36, Tryd.ntmps36
  go_wp2
  go_ret
  exact ⟨rfl, by repeat (first | exact Below.refl _ _ | refine Below.alloc ?_ (by first | (simp; done) | (simp; omega) | omega) _ | refine Below.drew ?_ | refine Bx.bel_drewN ?_ _ | refine Below.setCell ?_ (by first | (simp; done) | (simp; omega) | omega) _)⟩
set_option maxRecDepth 100000 in
set_option maxHeartbeats 400000 in
theorem devIsWhole_i_2 (n p : Int)  (w : World) : Calls Tryd.prog 36 #[.agg #[.int .i64 2, .int .i64 n, .int .i64 p]] w fun e w' => e = .returned (.bool false) ∧ Below w.heap.size w w' := by
  go_enter Tryd.func36, Tryd.ntmps36
  go_wp2
  go_ret
  exact ⟨rfl, by repeat (first | exact Below.refl _ _ | refine Below.alloc ?_ (by first | (simp; done) | (simp; omega) | omega) _ | refine Below.drew ?_ | refine Bx.bel_drewN ?_ _ | refine Below.setCell ?_ (by first | (simp; done) | (simp; omega) | omega) _)⟩
set_option maxRecDepth 100000 in
set_option maxHeartbeats 400000 in
theorem devIsWhole_i_3 (n p : Int)  (w : World) : Calls Tryd.prog 36 #[.agg #[.int .i64 3, .int .i64 n, .int .i64 p]] w fun e w' => e = .returned (.bool false) ∧ Below w.heap.size w w' := by
  go_enter Tryd.func36, Tryd.ntmps36
  go_wp2
  go_ret
  exact ⟨rfl, by repeat (first | exact Below.refl _ _ | refine Below.alloc ?_ (by first | (simp; done) | (simp; omega) | omega) _ | refine Below.drew ?_ | refine Bx.bel_drewN ?_ _ | refine Below.setCell ?_ (by first | (simp; done) | (simp; omega) | omega) _)⟩
set_option maxRecDepth 100000 in
set_option maxHeartbeats 400000 in
theorem devIsWhole_i_4 (n p : Int)  (w : World) : Calls Tryd.prog 36 #[.agg #[.int .i64 4, .int .i64 n, .int .i64 p]] w fun e w' => e = .returned (.bool false) ∧ Below w.heap.size w w' := by
  go_enter Tryd.func36, Tryd.ntmps36
  go_wp2
  go_ret
  exact ⟨rfl, by repeat (first | exact Below.refl _ _ | refine Below.alloc ?_ (by first | (simp; done) | (simp; omega) | omega) _ | refine Below.drew ?_ | refine Bx.bel_drewN ?_ _ | refine Below.setCell ?_ (by first | (simp; done) | (simp; omega) | omega) _)⟩
set_option maxRecDepth 100000 in
set_option maxHeartbeats 400000 in
theorem devIsWhole_i_5 (n p : Int)  (w : World) : Calls Tryd.prog 36 #[.agg #[.int .i64 5, .int .i64 n, .int .i64 p]] w fun e w' => e = .returned (.bool false) ∧ Below w.heap.size w w' := by
  go_enter Tryd.func36, Tryd.ntmps36
  go_wp2
  go_ret
  exact ⟨rfl, by repeat (first | exact Below.refl _ _ | refine Below.alloc ?_ (by first | (simp; done) | (simp; omega) | omega) _ | refine Below.drew ?_ | refine Bx.bel_drewN ?_ _ | refine Below.setCell ?_ (by first | (simp; done) | (simp; omega) | omega) _)⟩
set_option maxRecDepth 100000 in
set_option maxHeartbeats 400000 in
theorem devIsWhole_i_6 (n p : Int)  (w : World) : Calls Tryd.prog 36 #[.agg #[.int .i64 6, .int .i64 n, .int .i64 p]] w fun e w' => e = .returned (.bool false) ∧ Below w.heap.size w w' := by
  go_enter Tryd.func36, Tryd.ntmps36
  go_wp2
  go_ret
  exact ⟨rfl, by repeat (first | exact Below.refl _ _ | refine Below.alloc ?_ (by first | (simp; done) | (simp; omega) | omega) _ | refine Below.drew ?_ | refine Bx.bel_drewN ?_ _ | refine Below.setCell ?_ (by first | (simp; done) | (simp; omega) | omega) _)⟩
set_option maxRecDepth 100000 in
set_option maxHeartbeats 400000 in
theorem devIsWhole_i_7 (n p : Int)  (w : World) : Calls Tryd.prog 36 #[.agg #[.int .i64 7, .int .i64 n, .int .i64 p]] w fun e w' => e = .returned (.bool (DevP.ok 7 n p)) ∧ Below w.heap.size w w' := by
  go_enter Tryd.func36, Tryd.ntmps36
  go_wp2_with fail
  refine (devOk_i_any 7 n p _).mono ?_
  rintro e w1 ⟨rfl, hb1⟩
  have b1 := (Box.new w #[.int .i64 7, .int .i64 n, .int .i64 p] 40).kept hb1
  have c0 : w1.cell? ⟨w.heap.size, 0, none⟩ = some (.int .i64 7) := b1.cell 0
  have hB : Below w.heap.size w w1 := bel_step ((Below.refl _ _).alloc (Nat.le_refl _) _) hb1 (by simp)
  clear hb1 b1
  go_wp2
  go_ret
  exact ⟨rfl, hB⟩
set_option maxRecDepth 100000 in
set_option maxHeartbeats 400000 in
theorem devIsWhole_i_8 (n p : Int)  (w : World) : Calls Tryd.prog 36 #[.agg #[.int .i64 8, .int .i64 n, .int .i64 p]] w fun e w' => e = .returned (.bool (DevP.ok 8 n p)) ∧ Below w.heap.size w w' := by
  go_enter Tryd.func36, Tryd.ntmps36
  go_wp2_with fail
  refine (devOk_i_any 8 n p _).mono ?_
  rintro e w1 ⟨rfl, hb1⟩
  have b1 := (Box.new w #[.int .i64 8, .int .i64 n, .int .i64 p] 40).kept hb1
  have c0 : w1.cell? ⟨w.heap.size, 0, none⟩ = some (.int .i64 8) := b1.cell 0
  have hB : Below w.heap.size w w1 := bel_step ((Below.refl _ _).alloc (Nat.le_refl _) _) hb1 (by simp)
  clear hb1 b1
  go_wp2
  go_ret
  exact ⟨rfl, hB⟩
set_option maxRecDepth 100000 in
set_option maxHeartbeats 400000 in
theorem devIsWhole_i_9 (n p : Int)  (w : World) : Calls Tryd.prog 36 #[.agg #[.int .i64 9, .int .i64 n, .int .i64 p]] w fun e w' => e = .returned (.bool (DevP.ok 9 n p)) ∧ Below w.heap.size w w' := by
  go_enter Tryd.func36, Tryd.ntmps36
  go_wp2_with fail
  refine (devOk_i_any 9 n p _).mono ?_
  rintro e w1 ⟨rfl, hb1⟩
  have b1 := (Box.new w #[.int .i64 9, .int .i64 n, .int .i64 p] 40).kept hb1
  have c0 : w1.cell? ⟨w.heap.size, 0, none⟩ = some (.int .i64 9) := b1.cell 0
  have hB : Below w.heap.size w w1 := bel_step ((Below.refl _ _).alloc (Nat.le_refl _) _) hb1 (by simp)
  clear hb1 b1
  go_wp2
  go_ret
  exact ⟨rfl, hB⟩
set_option maxRecDepth 100000 in
set_option maxHeartbeats 400000 in
theorem devIsWhole_i_10 (n p : Int)  (w : World) : Calls Tryd.prog 36 #[.agg #[.int .i64 10, .int .i64 n, .int .i64 p]] w fun e w' => e = .returned (.bool false) ∧ Below w.heap.size w w' := by
  go_enter Tryd.func36, Tryd.ntmps36
  go_wp2
  go_ret
  exact ⟨rfl, by repeat (first | exact Below.refl _ _ | refine Below.alloc ?_ (by first | (simp; done) | (simp; omega) | omega) _ | refine Below.drew ?_ | refine Bx.bel_drewN ?_ _ | refine Below.setCell ?_ (by first | (simp; done) | (simp; omega) | omega) _)⟩
set_option maxRecDepth 100000 in
set_option maxHeartbeats 400000 in
theorem devIsWhole_i_11 (n p : Int)  (w : World) : Calls Tryd.prog 36 #[.agg #[.int .i64 11, .int .i64 n, .int .i64 p]] w fun e w' => e = .returned (.bool (DevP.ok 11 n p)) ∧ Below w.heap.size w w' := by
  go_enter Tryd.func36, Tryd.ntmps36
  go_wp2_with fail
  refine (devOk_i_any 11 n p _).mono ?_
  rintro e w1 ⟨rfl, hb1⟩
  have b1 := (Box.new w #[.int .i64 11, .int .i64 n, .int .i64 p] 40).kept hb1
  have c0 : w1.cell? ⟨w.heap.size, 0, none⟩ = some (.int .i64 11) := b1.cell 0
  have hB : Below w.heap.size w w1 := bel_step ((Below.refl _ _).alloc (Nat.le_refl _) _) hb1 (by simp)
  clear hb1 b1
  go_wp2
  go_ret
  exact ⟨rfl, hB⟩
set_option maxRecDepth 100000 in
set_option maxHeartbeats 400000 in
theorem devIsWhole_i_12 (n p : Int)  (w : World) : Calls Tryd.prog 36 #[.agg #[.int .i64 12, .int .i64 n, .int .i64 p]] w fun e w' => e = .returned (.bool false) ∧ Below w.heap.size w w' := by
  go_enter Tryd.func36, Tryd.ntmps36
  go_wp2
  go_ret
  exact ⟨rfl, by repeat (first | exact Below.refl _ _ | refine Below.alloc ?_ (by first | (simp; done) | (simp; omega) | omega) _ | refine Below.drew ?_ | refine Bx.bel_drewN ?_ _ | refine Below.setCell ?_ (by first | (simp; done) | (simp; omega) | omega) _)⟩
set_option maxRecDepth 100000 in
set_option maxHeartbeats 400000 in
theorem devIsWhole_i_13 (n p : Int)  (w : World) : Calls Tryd.prog 36 #[.agg #[.int .i64 13, .int .i64 n, .int .i64 p]] w fun e w' => e = .returned (.bool false) ∧ Below w.heap.size w w' := by
  go_enter Tryd.func36, Tryd.ntmps36
  go_wp2
  go_ret
  exact ⟨rfl, by repeat (first | exact Below.refl _ _ | refine Below.alloc ?_ (by first | (simp; done) | (simp; omega) | omega) _ | refine Below.drew ?_ | refine Bx.bel_drewN ?_ _ | refine Below.setCell ?_ (by first | (simp; done) | (simp; omega) | omega) _)⟩
theorem devIsWhole_i_any (k n p : Int) (w : World) : Calls Tryd.prog 36 #[.agg #[.int .i64 k, .int .i64 n, .int .i64 p]] w fun e w' => e = .returned (.bool (DevP.isWhole k n p)) ∧ Below w.heap.size w w' := by
  by_cases hl : k < 1
  · rw [show DevP.isWhole k n p = false by unfold DevP.isWhole; rw [DevP.ok_low hl]; rfl]; exact devIsWhole_i_low k n p hl w
  by_cases hh : 13 < k
  · rw [show DevP.isWhole k n p = false by unfold DevP.isWhole; rw [DevP.ok_high hh]; rfl]; exact devIsWhole_i_high k n p hh w
  have hk : k = 1 ∨ k = 2 ∨ k = 3 ∨ k = 4 ∨ k = 5 ∨ k = 6 ∨ k = 7 ∨ k = 8 ∨ k = 9 ∨ k = 10 ∨ k = 11 ∨ k = 12 ∨ k = 13 := by omega
  rcases hk with rfl | rfl | rfl | rfl | rfl | rfl | rfl | rfl | rfl | rfl | rfl | rfl | rfl
  · rw [show DevP.isWhole 1 n p = false by unfold DevP.isWhole; cases DevP.ok 1 n p <;> decide]; exact devIsWhole_i_1 n p w
  · rw [show DevP.isWhole 2 n p = false by unfold DevP.isWhole; cases DevP.ok 2 n p <;> decide]; exact devIsWhole_i_2 n p w
  · rw [show DevP.isWhole 3 n p = false by unfold DevP.isWhole; cases DevP.ok 3 n p <;> decide]; exact devIsWhole_i_3 n p w
  · rw [show DevP.isWhole 4 n p = false by unfold DevP.isWhole; cases DevP.ok 4 n p <;> decide]; exact devIsWhole_i_4 n p w
  · rw [show DevP.isWhole 5 n p = false by unfold DevP.isWhole; cases DevP.ok 5 n p <;> decide]; exact devIsWhole_i_5 n p w
  · rw [show DevP.isWhole 6 n p = false by unfold DevP.isWhole; cases DevP.ok 6 n p <;> decide]; exact devIsWhole_i_6 n p w
  · rw [show DevP.isWhole 7 n p = DevP.ok 7 n p by unfold DevP.isWhole; cases DevP.ok 7 n p <;> decide]; exact devIsWhole_i_7 n p w
  · rw [show DevP.isWhole 8 n p = DevP.ok 8 n p by unfold DevP.isWhole; cases DevP.ok 8 n p <;> decide]; exact devIsWhole_i_8 n p w
  · rw [show DevP.isWhole 9 n p = DevP.ok 9 n p by unfold DevP.isWhole; cases DevP.ok 9 n p <;> decide]; exact devIsWhole_i_9 n p w
  · rw [show DevP.isWhole 10 n p = false by unfold DevP.isWhole; cases DevP.ok 10 n p <;> decide]; exact devIsWhole_i_10 n p w
  · rw [show DevP.isWhole 11 n p = DevP.ok 11 n p by unfold DevP.isWhole; cases DevP.ok 11 n p <;> decide]; exact devIsWhole_i_11 n p w
  · rw [show DevP.isWhole 12 n p = false by unfold DevP.isWhole; cases DevP.ok 12 n p <;> decide]; exact devIsWhole_i_12 n p w
  · rw [show DevP.isWhole 13 n p = false by unfold DevP.isWhole; cases DevP.ok 13 n p <;> decide]; exact devIsWhole_i_13 n p w
set_option maxRecDepth 100000 in
set_option maxHeartbeats 400000 in
theorem devIsReal_s_no (k n p : Int) (hok : DevP.ok k n p = false) (w : World) : Calls Tryd.prog 45 #[.agg #[.int .i64 k, .int .i64 n, .int .i64 p]] w fun e w' => e = .returned (.bool false) ∧ Below w.heap.size w w' := by
  go_enter Tryd.func45, Tryd.ntmps45
  go_wp2_with fail
  refine (devOk_s_any k n p _).mono ?_
  rintro e w1 ⟨rfl, hb1⟩
  have b1 := (Box.new w #[.int .i64 k, .int .i64 n, .int .i64 p] 40).kept hb1
  have c0 : w1.cell? ⟨w.heap.size, 0, none⟩ = some (.int .i64 k) := b1.cell 0
  have hB : Below w.heap.size w w1 := bel_step ((Below.refl _ _).alloc (Nat.le_refl _) _) hb1 (by simp)
  clear hb1 b1
  go_wp2
  go_ret
  exact ⟨rfl, hB⟩
set_option maxRecDepth 100000 in
set_option maxHeartbeats 400000 in
theorem devIsReal_s_1 (n p : Int) (hok : DevP.ok 1 n p = true) (w : World) : Calls Tryd.prog 45 #[.agg #[.int .i64 1, .int .i64 n, .int .i64 p]] w fun e w' => e = .returned (.bool false) ∧ Below w.heap.size w w' := by
  go_enter Tryd.func45, Tryd.ntmps45
  go_wp2_with fail
  refine (devOk_s_any 1 n p _).mono ?_
  rintro e w1 ⟨rfl, hb1⟩
  have b1 := (Box.new w #[.int .i64 1, .int .i64 n, .int .i64 p] 40).kept hb1
  have c0 : w1.cell? ⟨w.heap.size, 0, none⟩ = some (.int .i64 1) := b1.cell 0
  have hB : Below w.heap.size w w1 := bel_step ((Below.refl _ _).alloc (Nat.le_refl _) _) hb1 (by simp)
  clear hb1 b1
  go_wp2
  go_ret
  exact ⟨rfl, hB⟩
set_option maxRecDepth 100000 in
set_option maxHeartbeats 400000 in
theorem devIsReal_s_2 (n p : Int) (hok : DevP.ok 2 n p = true) (w : World) : Calls Tryd.prog 45 #[.agg #[.int .i64 2, .int .i64 n, .int .i64 p]] w fun e w' => e = .returned (.bool false) ∧ Below w.heap.size w w' := by
  go_enter Tryd.func45, Tryd.ntmps45
  go_wp2_with fail
  refine (devOk_s_any 2 n p _).mono ?_
  rintro e w1 ⟨rfl, hb1⟩
  have b1 := (Box.new w #[.int .i64 2, .int .i64 n, .int .i64 p] 40).kept hb1
  have c0 : w1.cell? ⟨w.heap.size, 0, none⟩ = some (.int .i64 2) := b1.cell 0
  have hB : Below w.heap.size w w1 := bel_step ((Below.refl _ _).alloc (Nat.le_refl _) _) hb1 (by simp)
  clear hb1 b1
  go_wp2
  go_ret
  exact ⟨rfl, hB⟩
set_option maxRecDepth 100000 in
set_option maxHeartbeats 400000 in
theorem devIsReal_s_3 (n p : Int) (hok : DevP.ok 3 n p = true) (w : World) : Calls Tryd.prog 45 #[.agg #[.int .i64 3, .int .i64 n, .int .i64 p]] w fun e w' => e = .returned (.bool false) ∧ Below w.heap.size w w' := by
  go_enter Tryd.func45, Tryd.ntmps45
  go_wp2_with fail
  refine (devOk_s_any 3 n p _).mono ?_
  rintro e w1 ⟨rfl, hb1⟩
  have b1 := (Box.new w #[.int .i64 3, .int .i64 n, .int .i64 p] 40).kept hb1
  have c0 : w1.cell? ⟨w.heap.size, 0, none⟩ = some (.int .i64 3) := b1.cell 0
  have hB : Below w.heap.size w w1 := bel_step ((Below.refl _ _).alloc (Nat.le_refl _) _) hb1 (by simp)
  clear hb1 b1
  go_wp2
  go_ret
  exact ⟨rfl, hB⟩
set_option maxRecDepth 100000 in
set_option maxHeartbeats 400000 in
theorem devIsReal_s_4 (n p : Int) (hok : DevP.ok 4 n p = true) (w : World) : Calls Tryd.prog 45 #[.agg #[.int .i64 4, .int .i64 n, .int .i64 p]] w fun e w' => e = .returned (.bool false) ∧ Below w.heap.size w w' := by
  go_enter Tryd.func45, Tryd.ntmps45
  go_wp2_with fail
  refine (devOk_s_any 4 n p _).mono ?_
  rintro e w1 ⟨rfl, hb1⟩
  have b1 := (Box.new w #[.int .i64 4, .int .i64 n, .int .i64 p] 40).kept hb1
  have c0 : w1.cell? ⟨w.heap.size, 0, none⟩ = some (.int .i64 4) := b1.cell 0
  have hB : Below w.heap.size w w1 := bel_step ((Below.refl _ _).alloc (Nat.le_refl _) _) hb1 (by simp)
  clear hb1 b1
  go_wp2
  go_ret
  exact ⟨rfl, hB⟩
set_option maxRecDepth 100000 in
set_option maxHeartbeats 400000 in
theorem devIsReal_s_5 (n p : Int) (hok : DevP.ok 5 n p = true) (w : World) : Calls Tryd.prog 45 #[.agg #[.int .i64 5, .int .i64 n, .int .i64 p]] w fun e w' => e = .returned (.bool false) ∧ Below w.heap.size w w' := by
  go_enter Tryd.func45, Tryd.ntmps45
  go_wp2_with fail
  refine (devOk_s_any 5 n p _).mono ?_
  rintro e w1 ⟨rfl, hb1⟩
  have b1 := (Box.new w #[.int .i64 5, .int .i64 n, .int .i64 p] 40).kept hb1
  have c0 : w1.cell? ⟨w.heap.size, 0, none⟩ = some (.int .i64 5) := b1.cell 0
  have hB : Below w.heap.size w w1 := bel_step ((Below.refl _ _).alloc (Nat.le_refl _) _) hb1 (by simp)
  clear hb1 b1
  go_wp2
  go_ret
  exact ⟨rfl, hB⟩
set_option maxRecDepth 100000 in
set_option maxHeartbeats 400000 in
theorem devIsReal_s_6 (n p : Int) (hok : DevP.ok 6 n p = true) (w : World) : Calls Tryd.prog 45 #[.agg #[.int .i64 6, .int .i64 n, .int .i64 p]] w fun e w' => e = .returned (.bool false) ∧ Below w.heap.size w w' := by
  go_enter Tryd.func45, Tryd.ntmps45
  go_wp2_with fail
  refine (devOk_s_any 6 n p _).mono ?_
  rintro e w1 ⟨rfl, hb1⟩
  have b1 := (Box.new w #[.int .i64 6, .int .i64 n, .int .i64 p] 40).kept hb1
  have c0 : w1.cell? ⟨w.heap.size, 0, none⟩ = some (.int .i64 6) := b1.cell 0
  have hB : Below w.heap.size w w1 := bel_step ((Below.refl _ _).alloc (Nat.le_refl _) _) hb1 (by simp)
  clear hb1 b1
  go_wp2
  go_ret
  exact ⟨rfl, hB⟩
set_option maxRecDepth 100000 in
set_option maxHeartbeats 400000 in
theorem devIsReal_s_7 (n p : Int) (hok : DevP.ok 7 n p = true) (w : World) : Calls Tryd.prog 45 #[.agg #[.int .i64 7, .int .i64 n, .int .i64 p]] w fun e w' => e = .returned (.bool false) ∧ Below w.heap.size w w' := by
  go_enter Tryd.func45, Tryd.ntmps45
  go_wp2_with fail
  refine (devOk_s_any 7 n p _).mono ?_
  rintro e w1 ⟨rfl, hb1⟩
  have b1 := (Box.new w #[.int .i64 7, .int .i64 n, .int .i64 p] 40).kept hb1
  have c0 : w1.cell? ⟨w.heap.size, 0, none⟩ = some (.int .i64 7) := b1.cell 0
  have hB : Below w.heap.size w w1 := bel_step ((Below.refl _ _).alloc (Nat.le_refl _) _) hb1 (by simp)
  clear hb1 b1
  go_wp2
  go_ret
  exact ⟨rfl, hB⟩
set_option maxRecDepth 100000 in
set_option maxHeartbeats 400000 in
theorem devIsReal_s_8 (n p : Int) (hok : DevP.ok 8 n p = true) (w : World) : Calls Tryd.prog 45 #[.agg #[.int .i64 8, .int .i64 n, .int .i64 p]] w fun e w' => e = .returned (.bool false) ∧ Below w.heap.size w w' := by
  go_enter Tryd.func45, Tryd.ntmps45
  go_wp2_with fail
  refine (devOk_s_any 8 n p _).mono ?_
  rintro e w1 ⟨rfl, hb1⟩
  have b1 := (Box.new w #[.int .i64 8, .int .i64 n, .int .i64 p] 40).kept hb1
  have c0 : w1.cell? ⟨w.heap.size, 0, none⟩ = some (.int .i64 8) := b1.cell 0
  have hB : Below w.heap.size w w1 := bel_step ((Below.refl _ _).alloc (Nat.le_refl _) _) hb1 (by simp)
  clear hb1 b1
  go_wp2
  go_ret
  exact ⟨rfl, hB⟩
set_option maxRecDepth 100000 in
set_option maxHeartbeats 400000 in
theorem devIsReal_s_9 (n p : Int) (hok : DevP.ok 9 n p = true) (w : World) : Calls Tryd.prog 45 #[.agg #[.int .i64 9, .int .i64 n, .int .i64 p]] w fun e w' => e = .returned (.bool false) ∧ Below w.heap.size w w' := by
  go_enter Tryd.func45, Tryd.ntmps45
  go_wp2_with fail
  refine (devOk_s_any 9 n p _).mono ?_
  rintro e w1 ⟨rfl, hb1⟩
  have b1 := (Box.new w #[.int .i64 9, .int .i64 n, .int .i64 p] 40).kept hb1
  have c0 : w1.cell? ⟨w.heap.size, 0, none⟩ = some (.int .i64 9) := b1.cell 0
  have hB : Below w.heap.size w w1 := bel_step ((Below.refl _ _).alloc (Nat.le_refl _) _) hb1 (by simp)
  clear hb1 b1
  go_wp2
  go_ret
  exact ⟨rfl, hB⟩
set_option maxRecDepth 100000 in
set_option maxHeartbeats 400000 in
theorem devIsReal_s_10 (n p : Int) (hok : DevP.ok 10 n p = true) (w : World) : Calls Tryd.prog 45 #[.agg #[.int .i64 10, .int .i64 n, .int .i64 p]] w fun e w' => e = .returned (.bool true) ∧ Below w.heap.size w w' := by
  go_enter Tryd.func45, Tryd.ntmps45
  go_wp2_with fail
  refine (devOk_s_any 10 n p _).mono ?_
  rintro e w1 ⟨rfl, hb1⟩
  have b1 := (Box.new w #[.int .i64 10, .int .i64 n, .int .i64 p] 40).kept hb1
  have c0 : w1.cell? ⟨w.heap.size, 0, none⟩ = some (.int .i64 10) := b1.cell 0
  have hB : Below w.heap.size w w1 := bel_step ((Below.refl _ _).alloc (Nat.le_refl _) _) hb1 (by simp)
  clear hb1 b1
  go_wp2
  go_ret
  exact ⟨rfl, hB⟩
set_option maxRecDepth 100000 in
set_option maxHeartbeats 400000 in
theorem devIsReal_s_11 (n p : Int) (hok : DevP.ok 11 n p = true) (w : World) : Calls Tryd.prog 45 #[.agg #[.int .i64 11, .int .i64 n, .int .i64 p]] w fun e w' => e = .returned (.bool false) ∧ Below w.heap.size w w' := by
  go_enter Tryd.func45, Tryd.ntmps45
  go_wp2_with fail
  refine (devOk_s_any 11 n p _).mono ?_
  rintro e w1 ⟨rfl, hb1⟩
  have b1 := (Box.new w #[.int .i64 11, .int .i64 n, .int .i64 p] 40).kept hb1
  have c0 : w1.cell? ⟨w.heap.size, 0, none⟩ = some (.int .i64 11) := b1.cell 0
  have hB : Below w.heap.size w w1 := bel_step ((Below.refl _ _).alloc (Nat.le_refl _) _) hb1 (by simp)
  clear hb1 b1
  go_wp2
  go_ret
  exact ⟨rfl, hB⟩
set_option maxRecDepth 100000 in
set_option maxHeartbeats 400000 in
theorem devIsReal_s_12 (n p : Int) (hok : DevP.ok 12 n p = true) (w : World) : Calls Tryd.prog 45 #[.agg #[.int .i64 12, .int .i64 n, .int .i64 p]] w fun e w' => e = .returned (.bool true) ∧ Below w.heap.size w w' := by
  go_enter Tryd.func45, Tryd.ntmps45
  go_wp2_with fail
  refine (devOk_s_any 12 n p _).mono ?_
  rintro e w1 ⟨rfl, hb1⟩
  have b1 := (Box.new w #[.int .i64 12, .int .i64 n, .int .i64 p] 40).kept hb1
  have c0 : w1.cell? ⟨w.heap.size, 0, none⟩ = some (.int .i64 12) := b1.cell 0
  have hB : Below w.heap.size w w1 := bel_step ((Below.refl _ _).alloc (Nat.le_refl _) _) hb1 (by simp)
  clear hb1 b1
  go_wp2
  go_ret
  exact ⟨rfl, hB⟩
set_option maxRecDepth 100000 in
set_option maxHeartbeats 400000 in
theorem devIsReal_s_13 (n p : Int) (hok : DevP.ok 13 n p = true) (w : World) : Calls Tryd.prog 45 #[.agg #[.int .i64 13, .int .i64 n, .int .i64 p]] w fun e w' => e = .returned (.bool true) ∧ Below w.heap.size w w' := by
  go_enter Tryd.func45, Tryd.ntmps45
  go_wp2_with fail
  refine (devOk_s_any 13 n p _).mono ?_
  rintro e w1 ⟨rfl, hb1⟩
  have b1 := (Box.new w #[.int .i64 13, .int .i64 n, .int .i64 p] 40).kept hb1
  have c0 : w1.cell? ⟨w.heap.size, 0, none⟩ = some (.int .i64 13) := b1.cell 0
  have hB : Below w.heap.size w w1 := bel_step ((Below.refl _ _).alloc (Nat.le_refl _) _) hb1 (by simp)
  clear hb1 b1
  go_wp2
  go_ret
  exact ⟨rfl, hB⟩
theorem devIsReal_s_any (k n p : Int) (w : World) : Calls Tryd.prog 45 #[.agg #[.int .i64 k, .int .i64 n, .int .i64 p]] w fun e w' => e = .returned (.bool (DevP.isReal k n p)) ∧ Below w.heap.size w w' := by
  cases hok : DevP.ok k n p
  · rw [show DevP.isReal k n p = false by unfold DevP.isReal; rw [hok]; rfl]; exact devIsReal_s_no k n p hok w
  · have hr := DevP.ok_range hok
    have hk : k = 1 ∨ k = 2 ∨ k = 3 ∨ k = 4 ∨ k = 5 ∨ k = 6 ∨ k = 7 ∨ k = 8 ∨ k = 9 ∨ k = 10 ∨ k = 11 ∨ k = 12 ∨ k = 13 := by omega
    rcases hk with rfl | rfl | rfl | rfl | rfl | rfl | rfl | rfl | rfl | rfl | rfl | rfl | rfl
    · rw [show DevP.isReal 1 n p = false by unfold DevP.isReal; rw [hok]; decide]; exact devIsReal_s_1 n p hok w
    · rw [show DevP.isReal 2 n p = false by unfold DevP.isReal; rw [hok]; decide]; exact devIsReal_s_2 n p hok w
    · rw [show DevP.isReal 3 n p = false by unfold DevP.isReal; rw [hok]; decide]; exact devIsReal_s_3 n p hok w
    · rw [show DevP.isReal 4 n p = false by unfold DevP.isReal; rw [hok]; decide]; exact devIsReal_s_4 n p hok w
    · rw [show DevP.isReal 5 n p = false by unfold DevP.isReal; rw [hok]; decide]; exact devIsReal_s_5 n p hok w
    · rw [show DevP.isReal 6 n p = false by unfold DevP.isReal; rw [hok]; decide]; exact devIsReal_s_6 n p hok w
    · rw [show DevP.isReal 7 n p = false by unfold DevP.isReal; rw [hok]; decide]; exact devIsReal_s_7 n p hok w
    · rw [show DevP.isReal 8 n p = false by unfold DevP.isReal; rw [hok]; decide]; exact devIsReal_s_8 n p hok w
    · rw [show DevP.isReal 9 n p = false by unfold DevP.isReal; rw [hok]; decide]; exact devIsReal_s_9 n p hok w
    · rw [show DevP.isReal 10 n p = true by unfold DevP.isReal; rw [hok]; decide]; exact devIsReal_s_10 n p hok w
    · rw [show DevP.isReal 11 n p = false by unfold DevP.isReal; rw [hok]; decide]; exact devIsReal_s_11 n p hok w
    · rw [show DevP.isReal 12 n p = true by unfold DevP.isReal; rw [hok]; decide]; exact devIsReal_s_12 n p hok w
    · rw [show DevP.isReal 13 n p = true by unfold DevP.isReal; rw [hok]; decide]; exact devIsReal_s_13 n p hok w
set_option maxRecDepth 100000 in
set_option maxHeartbeats 400000 in
theorem devIsReal_i_low (k n p : Int) (h : k < 1) (w : World) : Calls Tryd.prog 38 #[.agg #[.int .i64 k, .int .i64 n, .int .i64 p]] w fun e w' => e = .returned (.bool false) ∧ Below w.heap.size w w' := by
  go_enter Tryd.func38, Tryd.ntmps38
  go_wp2
  go_ret
  exact ⟨rfl, by repeat (first | exact Below.refl _ _ | refine Below.alloc ?_ (by first | (simp; done) | (simp; omega) | omega) _ | refine Below.drew ?_ | refine Bx.bel_drewN ?_ _ | refine Below.setCell ?_ (by first | (simp; done) | (simp; omega) | omega) _)⟩
set_option maxRecDepth 100000 in
set_option maxHeartbeats 400000 in
theorem devIsReal_i_high (k n p : Int) (h : 13 < k) (w : World) : Calls Tryd.prog 38 #[.agg #[.int .i64 k, .int .i64 n, .int .i64 p]] w fun e w' => e = .returned (.bool false) ∧ Below w.heap.size w w' := by
  go_enter Tryd.func38, Tryd.ntmps38
  go_wp2
  go_ret
  exact ⟨rfl, by repeat (first | exact Below.refl _ _ | refine Below.alloc ?_ (by first | (simp; done) | (simp; omega) | omega) _ | refine Below.drew ?_ | refine Bx.bel_drewN ?_ _ | refine Below.setCell ?_ (by first | (simp; done) | (simp; omega) | omega) _)⟩
set_option maxRecDepth 100000 in
set_option maxHeartbeats 400000 in
theorem devIsReal_i_1 (n p : Int)  (w : World) : Calls Tryd.prog 38 #[.agg #[.int .i64 1, .int .i64 n, .int .i64 p]] w fun e w' => e = .returned (.bool false) ∧ Below w.heap.size w w' := by
  go_enter Tryd.func38, Tryd.ntmps38
  go_wp2
  go_ret
  exact ⟨rfl, by repeat (first | exact Below.refl _ _ | refine Below.alloc ?_ (by first | (simp; done) | (simp; omega) | omega) _ | refine Below.drew ?_ | refine Bx.bel_drewN ?_ _ | refine Below.setCell ?_ (by first | (simp; done) | (simp; omega) | omega) _)⟩
set_option maxRecDepth 100000 in
set_option maxHeartbeats 400000 in
theorem devIsReal_i_2 (n p : Int)  (w : World) : Calls Tryd.prog 38 #[.agg #[.int .i64 2, .int .i64 n, .int .i64 p]] w fun e w' => e = .returned (.bool false) ∧ Below w.heap.size w w' := by
  go_enter Tryd.func38, Tryd.ntmps38
  go_wp2
  go_ret
  exact ⟨rfl, by repeat (first | exact Below.refl _ _ | refine Below.alloc ?_ (by first | (simp; done) | (simp; omega) | omega) _ | refine Below.drew ?_ | refine Bx.bel_drewN ?_ _ | refine Below.setCell ?_ (by first | (simp; done) | (simp; omega) | omega) _)⟩
set_option maxRecDepth 100000 in
set_option maxHeartbeats 400000 in
theorem devIsReal_i_3 (n p : Int)  (w : World) : Calls Tryd.prog 38 #[.agg #[.int .i64 3, .int .i64 n, .int .i64 p]] w fun e w' => e = .returned (.bool false) ∧ Below w.heap.size w w' := by
  go_enter Tryd.func38, Tryd.ntmps38
  go_wp2
  go_ret
  exact ⟨rfl, by repeat (first | exact Below.refl _ _ | refine Below.alloc ?_ (by first | (simp; done) | (simp; omega) | omega) _ | refine Below.drew ?_ | refine Bx.bel_drewN ?_ _ | refine Below.setCell ?_ (by first | (simp; done) | (simp; omega) | omega) _)⟩
set_option maxRecDepth 100000 in
set_option maxHeartbeats 400000 in
theorem devIsReal_i_4 (n p : Int)  (w : World) : Calls Tryd.prog 38 #[.agg #[.int .i64 4, .int .i64 n, .int .i64 p]] w fun e w' => e = .returned (.bool false) ∧ Below w.heap.size w w' := by
  go_enter Tryd.func38, Tryd.ntmps38
  go_wp2
  go_ret
  exact ⟨rfl, by repeat (first | exact Below.refl _ _ | refine Below.alloc ?_ (by first | (simp; done) | (simp; omega) | omega) _ | refine Below.drew ?_ | refine Bx.bel_drewN ?_ _ | refine Below.setCell ?_ (by first | (simp; done) | (simp; omega) | omega) _)⟩
set_option maxRecDepth 100000 in
set_option maxHeartbeats 400000 in
theorem devIsReal_i_5 (n p : Int)  (w : World) : Calls Tryd.prog 38 #[.agg #[.int .i64 5, .int .i64 n, .int .i64 p]] w fun e w' => e = .returned (.bool false) ∧ Below w.heap.size w w' := by
  go_enter Tryd.func38, Tryd.ntmps38
  go_wp2
  go_ret
  exact ⟨rfl, by repeat (first | exact Below.refl _ _ | refine Below.alloc ?_ (by first | (simp; done) | (simp; omega) | omega) _ | refine Below.drew ?_ | refine Bx.bel_drewN ?_ _ | refine Below.setCell ?_ (by first | (simp; done) | (simp; omega) | omega) _)⟩
set_option maxRecDepth 100000 in
set_option maxHeartbeats 400000 in
theorem devIsReal_i_6 (n p : Int)  (w : World) : Calls Tryd.prog 38 #[.agg #[.int .i64 6, .int .i64 n, .int .i64 p]] w fun e w' => e = .returned (.bool false) ∧ Below w.heap.size w w' := by
  go_enter Tryd.func38, Tryd.ntmps38
  go_wp2
  go_ret
  exact ⟨rfl, by repeat (first | exact Below.refl _ _ | refine Below.alloc ?_ (by first | (simp; done) | (simp; omega) | omega) _ | refine Below.drew ?_ | refine Bx.bel_drewN ?_ _ | refine Below.setCell ?_ (by first | (simp; done) | (simp; omega) | omega) _)⟩
set_option maxRecDepth 100000 in
set_option maxHeartbeats 400000 in
theorem devIsReal_i_7 (n p : Int)  (w : World) : Calls Tryd.prog 38 #[.agg #[.int .i64 7, .int .i64 n, .int .i64 p]] w fun e w' => e = .returned (.bool false) ∧ Below w.heap.size w w' := by
  go_enter Tryd.func38, Tryd.ntmps38
  go_wp2
  go_ret
  exact ⟨rfl, by repeat (first | exact Below.refl _ _ | refine Below.alloc ?_ (by first | (simp; done) | (simp; omega) | omega) _ | refine Below.drew ?_ | refine Bx.bel_drewN ?_ _ | refine Below.setCell ?_ (by first | (simp; done) | (simp; omega) | omega) _)⟩
set_option maxRecDepth 100000 in
set_option maxHeartbeats 400000 in
theorem devIsReal_i_8 (n p : Int)  (w : World) : Calls Tryd.prog 38 #[.agg #[.int .i64 8, .int .i64 n, .int .i64 p]] w fun e w' => e = .returned (.bool false) ∧ Below w.heap.size w w' := by
  go_enter Tryd.func38, Tryd.ntmps38
  go_wp2
  go_ret
  exact ⟨rfl, by repeat (first | exact Below.refl _ _ | refine Below.alloc ?_ (by first | (simp; done) | (simp; omega) | omega) _ | refine Below.drew ?_ | refine Bx.bel_drewN ?_ _ | refine Below.setCell ?_ (by first | (simp; done) | (simp; omega) | omega) _)⟩
set_option maxRecDepth 100000 in
set_option maxHeartbeats 400000 in
theorem devIsReal_i_9 (n p : Int)  (w : World) : Calls Tryd.prog 38 #[.agg #[.int .i64 9, .int .i64 n, .int .i64 p]] w fun e w' => e = .returned (.bool false) ∧ Below w.heap.size w w' := by
  go_enter Tryd.func38, Tryd.ntmps38
  go_wp2
  go_ret
  exact ⟨rfl, by repeat (first | exact Below.refl _ _ | refine Below.alloc ?_ (by first | (simp; done) | (simp; omega) | omega) _ | refine Below.drew ?_ | refine Bx.bel_drewN ?_ _ | refine Below.setCell ?_ (by first | (simp; done) | (simp; omega) | omega) _)⟩
set_option maxRecDepth 100000 in
set_option maxHeartbeats 400000 in
theorem devIsReal_i_10 (n p : Int)  (w : World) : Calls Tryd.prog 38 #[.agg #[.int .i64 10, .int .i64 n, .int .i64 p]] w fun e w' => e = .returned (.bool (DevP.ok 10 n p)) ∧ Below w.heap.size w w' := by
  go_enter Tryd.func38, Tryd.ntmps38
  go_wp2_with fail
  refine (devOk_i_any 10 n p _).mono ?_
  rintro e w1 ⟨rfl, hb1⟩
  have b1 := (Box.new w #[.int .i64 10, .int .i64 n, .int .i64 p] 40).kept hb1
  have c0 : w1.cell? ⟨w.heap.size, 0, none⟩ = some (.int .i64 10) := b1.cell 0
  have hB : Below w.heap.size w w1 := bel_step ((Below.refl _ _).alloc (Nat.le_refl _) _) hb1 (by simp)
  clear hb1 b1
  go_wp2
  go_ret
  exact ⟨rfl, hB⟩
set_option maxRecDepth 100000 in
set_option maxHeartbeats 400000 in
theorem devIsReal_i_11 (n p : Int)  (w : World) : Calls Tryd.prog 38 #[.agg #[.int .i64 11, .int .i64 n, .int .i64 p]] w fun e w' => e = .returned (.bool false) ∧ Below w.heap.size w w' := by
  go_enter Tryd.func38, Tryd.ntmps38
  go_wp2
  go_ret
  exact ⟨rfl, by repeat (first | exact Below.refl _ _ | refine Below.alloc ?_ (by first | (simp; done) | (simp; omega) | omega) _ | refine Below.drew ?_ | refine Bx.bel_drewN ?_ _ | refine Below.setCell ?_ (by first | (simp; done) | (simp; omega) | omega) _)⟩
set_option maxRecDepth 100000 in
set_option maxHeartbeats 400000 in
theorem devIsReal_i_12 (n p : Int)  (w : World) : Calls Tryd.prog 38 #[.agg #[.int .i64 12, .int .i64 n, .int .i64 p]] w fun e w' => e = .returned (.bool (DevP.ok 12 n p)) ∧ Below w.heap.size w w' := by
  go_enter Tryd.func38, Tryd.ntmps38
  go_wp2_with fail
  refine (devOk_i_any 12 n p _).mono ?_
  rintro e w1 ⟨rfl, hb1⟩
  have b1 := (Box.new w #[.int .i64 12, .int .i64 n, .int .i64 p] 40).kept hb1
  have c0 : w1.cell? ⟨w.heap.size, 0, none⟩ = some (.int .i64 12) := b1.cell 0
  have hB : Below w.heap.size w w1 := bel_step ((Below.refl _ _).alloc (Nat.le_refl _) _) hb1 (by simp)
  clear hb1 b1
  go_wp2
  go_ret
  exact ⟨rfl, hB⟩
set_option maxRecDepth 100000 in
set_option maxHeartbeats 400000 in
theorem devIsReal_i_13 (n p : Int)  (w : World) : Calls Tryd.prog 38 #[.agg #[.int .i64 13, .int .i64 n, .int .i64 p]] w fun e w' => e = .returned (.bool (DevP.ok 13 n p)) ∧ Below w.heap.size w w' := by
  go_enter Tryd.func38, Tryd.ntmps38
  go_wp2_with fail
  refine (devOk_i_any 13 n p _).mono ?_
  rintro e w1 ⟨rfl, hb1⟩
  have b1 := (Box.new w #[.int .i64 13, .int .i64 n, .int .i64 p] 40).kept hb1
  have c0 : w1.cell? ⟨w.heap.size, 0, none⟩ = some (.int .i64 13) := b1.cell 0
  have hB : Below w.heap.size w w1 := bel_step ((Below.refl _ _).alloc (Nat.le_refl _) _) hb1 (by simp)
  clear hb1 b1
  go_wp2
  go_ret
  exact ⟨rfl, hB⟩
theorem devIsReal_i_any (k n p : Int) (w : World) : Calls Tryd.prog 38 #[.agg #[.int .i64 k, .int .i64 n, .int .i64 p]] w fun e w' => e = .returned (.bool (DevP.isReal k n p)) ∧ Below w.heap.size w w' := by
  by_cases hl : k < 1
  · rw [show DevP.isReal k n p = false by unfold DevP.isReal; rw [DevP.ok_low hl]; rfl]; exact devIsReal_i_low k n p hl w
  by_cases hh : 13 < k
  · rw [show DevP.isReal k n p = false by unfold DevP.isReal; rw [DevP.ok_high hh]; rfl]; exact devIsReal_i_high k n p hh w
  have hk : k = 1 ∨ k = 2 ∨ k = 3 ∨ k = 4 ∨ k = 5 ∨ k = 6 ∨ k = 7 ∨ k = 8 ∨ k = 9 ∨ k = 10 ∨ k = 11 ∨ k = 12 ∨ k = 13 := by omega
  rcases hk with rfl | rfl | rfl | rfl | rfl | rfl | rfl | rfl | rfl | rfl | rfl | rfl | rfl
  · rw [show DevP.isReal 1 n p = false by unfold DevP.isReal; cases DevP.ok 1 n p <;> decide]; exact devIsReal_i_1 n p w
  · rw [show DevP.isReal 2 n p = false by unfold DevP.isReal; cases DevP.ok 2 n p <;> decide]; exact devIsReal_i_2 n p w
  · rw [show DevP.isReal 3 n p = false by unfold DevP.isReal; cases DevP.ok 3 n p <;> decide]; exact devIsReal_i_3 n p w
  · rw [show DevP.isReal 4 n p = false by unfold DevP.isReal; cases DevP.ok 4 n p <;> decide]; exact devIsReal_i_4 n p w
  · rw [show DevP.isReal 5 n p = false by unfold DevP.isReal; cases DevP.ok 5 n p <;> decide]; exact devIsReal_i_5 n p w
  · rw [show DevP.isReal 6 n p = false by unfold DevP.isReal; cases DevP.ok 6 n p <;> decide]; exact devIsReal_i_6 n p w
  · rw [show DevP.isReal 7 n p = false by unfold DevP.isReal; cases DevP.ok 7 n p <;> decide]; exact devIsReal_i_7 n p w
  · rw [show DevP.isReal 8 n p = false by unfold DevP.isReal; cases DevP.ok 8 n p <;> decide]; exact devIsReal_i_8 n p w
  · rw [show DevP.isReal 9 n p = false by unfold DevP.isReal; cases DevP.ok 9 n p <;> decide]; exact devIsReal_i_9 n p w
  · rw [show DevP.isReal 10 n p = DevP.ok 10 n p by unfold DevP.isReal; cases DevP.ok 10 n p <;> decide]; exact devIsReal_i_10 n p w
  · rw [show DevP.isReal 11 n p = false by unfold DevP.isReal; cases DevP.ok 11 n p <;> decide]; exact devIsReal_i_11 n p w
  · rw [show DevP.isReal 12 n p = DevP.ok 12 n p by unfold DevP.isReal; cases DevP.ok 12 n p <;> decide]; exact devIsReal_i_12 n p w
  · rw [show DevP.isReal 13 n p = DevP.ok 13 n p by unfold DevP.isReal; cases DevP.ok 13 n p <;> decide]; exact devIsReal_i_13 n p w
end Go.Proofs.YtmlpobecilbknaaDoor
