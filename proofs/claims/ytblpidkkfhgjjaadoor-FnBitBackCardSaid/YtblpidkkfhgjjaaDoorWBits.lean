/- The contracts of the program's packed stacks and forks. -/
import Derived.Test.YtblpidkkfhgjjaaDoorRows
import Derived.Test.YtblpidkkfhgjjaaDoorBitP
import Derived.Test.YtblpidkkfhgjjaaDoorBox
import Derived.WalkKit
import Derived.WalkSpells
import Derived.WalkLawsBesides
import Derived.OpenShut
import Derived.Deep.QuietTactic
import Derived.BigQuiet
import Derived.Deep.RegionHeld3
import Derived.StillTailTactics
import Derived.StillTactics
import Derived.Laws.BitsAllLaws
namespace Go.Proofs.YtblpidkkfhgjjaaDoor
open Go.RowKit Bx
set_option linter.unusedVariables false

set_option maxRecDepth 100000 in
set_option maxHeartbeats 400000 in
theorem within_same (n lo hi : Int) (w : World) : Calls Tryd.prog 24 #[.int .i64 n, .int .i64 lo, .int .i64 hi] w fun e w' => e = .returned (.bool (decide (lo ≤ n) && decide (n ≤ hi))) ∧ w = w' := by
  by_cases h : lo ≤ n
  · have d : decide (lo ≤ n) = true := by simpa using h
    go_enter Tryd.func24, Tryd.ntmps24
    go_wp2
    go_ret
    refine ⟨?_, rfl⟩
    simp
    exact fun _ => h
  · have d : decide (lo ≤ n) = false := by simpa using h
    go_enter Tryd.func24, Tryd.ntmps24
    go_wp2
    go_ret
    refine ⟨?_, rfl⟩
    simp
set_option maxRecDepth 100000 in
set_option maxHeartbeats 400000 in
theorem bit_any (x : Bool) (w : World) : Calls Tryd.prog 34 #[.bool x] w fun e w' => e = .returned (.int .u16 (x.toNat : Int)) ∧ w = w' := by
  cases x
  all_goals
    go_enter Tryd.func34, Tryd.ntmps34
    go_wp2
    go_ret
    exact ⟨rfl, rfl⟩
set_option maxRecDepth 100000 in
set_option maxHeartbeats 400000 in
theorem BitOk_low (b n : Int) (h : n < 0) (w : World) : Calls Tryd.prog 13 #[.agg #[.int .u16 b, .int .i64 n]] w fun e w' => e = .returned (.bool false) ∧ Below w.heap.size w w' := by
  have d1 : decide (0 ≤ n) = false := by simp; omega
  go_enter Tryd.func13, Tryd.ntmps13
  go_wp2_with (first | (go_at_call 24; refine (within_same _ _ _ _).mono ?_; rintro e w' ⟨rfl, rfl⟩) | go_in)
  go_ret
  exact ⟨rfl, by repeat (first | exact Below.refl _ _ | refine Below.alloc ?_ (by first | (simp; done) | (simp; omega) | omega) _ | refine Below.drew ?_ | refine Bx.bel_drewN ?_ _ | refine Below.setCell ?_ (by first | (simp; done) | (simp; omega) | omega) _)⟩
set_option maxRecDepth 100000 in
set_option maxHeartbeats 400000 in
theorem BitOk_high (b n : Int) (h : 16 < n) (w : World) : Calls Tryd.prog 13 #[.agg #[.int .u16 b, .int .i64 n]] w fun e w' => e = .returned (.bool false) ∧ Below w.heap.size w w' := by
  have d1 : decide (0 ≤ n) = true := by simp; omega
  have d2 : decide (n ≤ 16) = false := by simp; omega
  go_enter Tryd.func13, Tryd.ntmps13
  go_wp2_with (first | (go_at_call 24; refine (within_same _ _ _ _).mono ?_; rintro e w' ⟨rfl, rfl⟩) | go_in)
  go_ret
  exact ⟨rfl, by repeat (first | exact Below.refl _ _ | refine Below.alloc ?_ (by first | (simp; done) | (simp; omega) | omega) _ | refine Below.drew ?_ | refine Bx.bel_drewN ?_ _ | refine Below.setCell ?_ (by first | (simp; done) | (simp; omega) | omega) _)⟩
set_option maxRecDepth 100000 in
set_option maxHeartbeats 400000 in
theorem BitOk_mid (b : Int) (n : Nat) (h0 : 0 ≤ b) (h1 : b < 65536) (h : n ≤ 16) (w : World) : Calls Tryd.prog 13 #[.agg #[.int .u16 b, .int .i64 n]] w fun e w' => e = .returned (.bool (b / 2 ^ n == 0)) ∧ Below w.heap.size w w' := by
  have d2 : decide ((n : Int) ≤ 16) = true := by simp; omega
  go_enter Tryd.func13, Tryd.ntmps13
  go_wp2_with (first | (go_at_call 24; refine (within_same _ _ _ _).mono ?_; rintro e w' ⟨rfl, rfl⟩) | go_in)
  go_ret
  exact ⟨rfl, by repeat (first | exact Below.refl _ _ | refine Below.alloc ?_ (by first | (simp; done) | (simp; omega) | omega) _ | refine Below.drew ?_ | refine Bx.bel_drewN ?_ _ | refine Below.setCell ?_ (by first | (simp; done) | (simp; omega) | omega) _)⟩
theorem BitOk_i_any (b n : Int) (h0 : 0 ≤ b) (h1 : b < 65536) (w : World) : Calls Tryd.prog 13 #[.agg #[.int .u16 b, .int .i64 n]] w fun e w' => e = .returned (.bool (BitP.ok 16 b n)) ∧ Below w.heap.size w w' := by
  by_cases hl : n < 0
  · rw [show BitP.ok 16 b n = false by unfold BitP.ok; rw [decide_eq_false (by omega)]; rfl]; exact BitOk_low b n hl w
  by_cases hh : 16 < n
  · rw [show BitP.ok 16 b n = false by unfold BitP.ok; rw [decide_eq_false (p := n ≤ 16) (by omega), Bool.and_false]; rfl]; exact BitOk_high b n hh w
  · obtain ⟨m, rfl⟩ := Int.eq_ofNat_of_zero_le (show 0 ≤ n by omega)
    rw [show BitP.ok 16 b (m : Int) = (b / 2 ^ m == 0) by unfold BitP.ok; rw [decide_eq_true (by omega), decide_eq_true (p := (m : Int) ≤ 16) (by omega)]; rfl]
    exact BitOk_mid b m h0 h1 (by omega) w
set_option maxRecDepth 100000 in
set_option maxHeartbeats 400000 in
theorem BitGood_yes (b n : Int) (h0 : 0 ≤ b) (h1 : b < 65536) (hok : BitP.ok 16 b n = true) (w : World) : Calls Tryd.prog 33 #[.agg #[.int .u16 b, .int .i64 n]] w fun e w' => e = .returned (.agg #[.int .u16 b, .int .i64 n]) ∧ Below w.heap.size w w' := by
  go_enter Tryd.func33, Tryd.ntmps33
  go_wp2_with fail
  refine (BitOk_i_any b n h0 h1 _).mono ?_
  rintro e w1 ⟨rfl, hb1⟩
  have b0 := (Box.new w #[.int .u16 b, .int .i64 n] 24).kept ((Below.refl _ _).alloc (Nat.le_refl _) (.cells #[.int .u16 0, .int .i64 0] 24))
  have b1 := b0.kept hb1
  have c0 : w1.cell? ⟨w.heap.size, 0, none⟩ = some (.int .u16 b) := b1.cell 0
  have c1 : w1.cell? ⟨w.heap.size, 1, none⟩ = some (.int .i64 n) := b1.cell 1
  have r1 := (Box.new (w.alloc (.cells #[.int .u16 b, .int .i64 n] 24)) #[.int .u16 0, .int .i64 0] 24).kept hb1
  have e0 : w1.cell? ⟨w.heap.size + 1, 0, none⟩ = some (.int .u16 0) := by have := r1.cell 0; simpa using this
  have e1 : w1.cell? ⟨w.heap.size + 1, 1, none⟩ = some (.int .i64 0) := by have := r1.cell 1; simpa using this
  have f0 : w1.frozen? ⟨w.heap.size + 1, 0, none⟩ = false := by have := r1.free 0; simpa using this
  have f1 : w1.frozen? ⟨w.heap.size + 1, 1, none⟩ = false := by have := r1.free 1; simpa using this
  have hs : w.heap.size + 1 < w1.heap.size := by have := hb1.size; simp at this; omega
  have hB : Below w.heap.size w w1 := bel_step (((Below.refl _ _).alloc (Nat.le_refl _) _).alloc (by simp) _) hb1 (by simp; omega)
  clear hb1 b0 b1 r1
  go_wp2
  refine bodyPost_ret (v := .agg #[.int .u16 b, .int .i64 n]) (by simp [results, Tryd.results33, go_sem, e0, e1]) rfl ⟨rfl, ?_⟩
  repeat (first | exact hB | refine Below.setCell ?_ (by first | (simp; done) | (simp; omega) | omega) _)
set_option maxRecDepth 100000 in
set_option maxHeartbeats 400000 in
theorem BitGood_no (b n : Int) (h0 : 0 ≤ b) (h1 : b < 65536) (hok : BitP.ok 16 b n = false) (w : World) : Calls Tryd.prog 33 #[.agg #[.int .u16 b, .int .i64 n]] w fun e w' => e = .returned (.agg #[.int .u16 0, .int .i64 0]) ∧ Below w.heap.size w w' := by
  go_enter Tryd.func33, Tryd.ntmps33
  go_wp2_with fail
  refine (BitOk_i_any b n h0 h1 _).mono ?_
  rintro e w1 ⟨rfl, hb1⟩
  have r1 := (Box.new (w.alloc (.cells #[.int .u16 b, .int .i64 n] 24)) #[.int .u16 0, .int .i64 0] 24).kept hb1
  have e0 : w1.cell? ⟨w.heap.size + 1, 0, none⟩ = some (.int .u16 0) := by have := r1.cell 0; simpa using this
  have e1 : w1.cell? ⟨w.heap.size + 1, 1, none⟩ = some (.int .i64 0) := by have := r1.cell 1; simpa using this
  have f0 : w1.frozen? ⟨w.heap.size + 1, 0, none⟩ = false := by have := r1.free 0; simpa using this
  have f1 : w1.frozen? ⟨w.heap.size + 1, 1, none⟩ = false := by have := r1.free 1; simpa using this
  have hs : w.heap.size + 1 < w1.heap.size := by have := hb1.size; simp at this; omega
  have hB : Below w.heap.size w w1 := bel_step (((Below.refl _ _).alloc (Nat.le_refl _) _).alloc (by simp) _) hb1 (by simp; omega)
  clear hb1 r1
  go_wp2
  refine bodyPost_ret (v := .agg #[.int .u16 0, .int .i64 0]) (by simp [results, Tryd.results33, go_sem, e0, e1]) rfl ⟨rfl, ?_⟩
  repeat (first | exact hB | refine Below.setCell ?_ (by first | (simp; done) | (simp; omega) | omega) _)
/-- what stands in the place of a stack -/
theorem BitGood_any (b n : Int) (h0 : 0 ≤ b) (h1 : b < 65536) (w : World) : Calls Tryd.prog 33 #[.agg #[.int .u16 b, .int .i64 n]] w fun e w' => ∃ B N : Nat, (B, N) = BitP.good 16 b n ∧ B < 2 ^ N ∧ N ≤ 16 ∧ e = .returned (.agg #[.int .u16 B, .int .i64 N]) ∧ Below w.heap.size w w' := by
  by_cases hok : BitP.ok 16 b n = true
  · obtain ⟨B, N, rfl, rfl, hN, hB⟩ := BitP.ok_nat hok h0
    exact (BitGood_yes _ _ h0 h1 hok w).mono fun e w' ⟨he, hb⟩ => ⟨B, N, by simp [BitP.good, hok], hB, by omega, he, hb⟩
  · have hok : BitP.ok 16 b n = false := by simpa using hok
    exact (BitGood_no _ _ h0 h1 hok w).mono fun e w' ⟨he, hb⟩ => ⟨0, 0, by simp [BitP.good, hok], by omega, by omega, he, hb⟩
end Go.Proofs.YtblpidkkfhgjjaaDoor
