/- The contracts of CmpFlip, CmpSwap, WholeCmp and RealCmp at the six tests; the draws of two numbers. -/
import Derived.Test.YtmbmdemoghdggaaRows
import Derived.Test.YtmbmdemoghdggaaWReal
import Derived.Test.YtmbmdemoghdggaaWalk1
import Derived.Test.YtmbmdemoghdggaaWalk2
import Derived.WalkKit
import Derived.WalkSpells
import Derived.WalkLawsBesides
import Derived.OpenShut
namespace Go.Proofs.Ytmbmdemoghdggaa
open Go.RowKit Rdr
set_option linter.unusedVariables false

set_option maxRecDepth 100000 in
set_option maxHeartbeats 400000 in
theorem CmpFlip_i1 (w : World) : Calls Try.prog 16 #[.int .i64 1] w fun e w' => e = .returned (.int .i64 5) ∧ w = w' := by
  have ix := FnExactCmpFlip_ix0
  go_enter Try.func16, Try.ntmps16
  go_wp2
  go_ret
  exact ⟨rfl, rfl⟩
set_option maxRecDepth 100000 in
set_option maxHeartbeats 400000 in
theorem CmpFlip_s1 (w : World) : Calls Try.prog 15 #[.int .i64 1] w fun e w' => e = .returned (.int .i64 5) ∧ Below w.heap.size w w' := by
  go_enter Try.func15, Try.ntmps15
  go_wp2
  go_ret
  exact ⟨rfl, by repeat (first | exact Below.refl _ _ | refine Below.alloc ?_ (by simp) _ | refine Below.drew ?_)⟩
set_option maxRecDepth 100000 in
set_option maxHeartbeats 400000 in
theorem CmpFlip_i2 (w : World) : Calls Try.prog 16 #[.int .i64 2] w fun e w' => e = .returned (.int .i64 6) ∧ w = w' := by
  have ix := FnExactCmpFlip_ix1
  go_enter Try.func16, Try.ntmps16
  go_wp2
  go_ret
  exact ⟨rfl, rfl⟩
set_option maxRecDepth 100000 in
set_option maxHeartbeats 400000 in
theorem CmpFlip_s2 (w : World) : Calls Try.prog 15 #[.int .i64 2] w fun e w' => e = .returned (.int .i64 6) ∧ Below w.heap.size w w' := by
  go_enter Try.func15, Try.ntmps15
  go_wp2
  go_ret
  exact ⟨rfl, by repeat (first | exact Below.refl _ _ | refine Below.alloc ?_ (by simp) _ | refine Below.drew ?_)⟩
set_option maxRecDepth 100000 in
set_option maxHeartbeats 400000 in
theorem CmpFlip_i3 (w : World) : Calls Try.prog 16 #[.int .i64 3] w fun e w' => e = .returned (.int .i64 4) ∧ w = w' := by
  have ix := FnExactCmpFlip_ix2
  go_enter Try.func16, Try.ntmps16
  go_wp2
  go_ret
  exact ⟨rfl, rfl⟩
set_option maxRecDepth 100000 in
set_option maxHeartbeats 400000 in
theorem CmpFlip_s3 (w : World) : Calls Try.prog 15 #[.int .i64 3] w fun e w' => e = .returned (.int .i64 4) ∧ Below w.heap.size w w' := by
  go_enter Try.func15, Try.ntmps15
  go_wp2
  go_ret
  exact ⟨rfl, by repeat (first | exact Below.refl _ _ | refine Below.alloc ?_ (by simp) _ | refine Below.drew ?_)⟩
set_option maxRecDepth 100000 in
set_option maxHeartbeats 400000 in
theorem CmpFlip_i4 (w : World) : Calls Try.prog 16 #[.int .i64 4] w fun e w' => e = .returned (.int .i64 3) ∧ w = w' := by
  have ix := FnExactCmpFlip_ix3
  go_enter Try.func16, Try.ntmps16
  go_wp2
  go_ret
  exact ⟨rfl, rfl⟩
set_option maxRecDepth 100000 in
set_option maxHeartbeats 400000 in
theorem CmpFlip_s4 (w : World) : Calls Try.prog 15 #[.int .i64 4] w fun e w' => e = .returned (.int .i64 3) ∧ Below w.heap.size w w' := by
  go_enter Try.func15, Try.ntmps15
  go_wp2
  go_ret
  exact ⟨rfl, by repeat (first | exact Below.refl _ _ | refine Below.alloc ?_ (by simp) _ | refine Below.drew ?_)⟩
set_option maxRecDepth 100000 in
set_option maxHeartbeats 400000 in
theorem CmpFlip_i5 (w : World) : Calls Try.prog 16 #[.int .i64 5] w fun e w' => e = .returned (.int .i64 1) ∧ w = w' := by
  have ix := FnExactCmpFlip_ix4
  go_enter Try.func16, Try.ntmps16
  go_wp2
  go_ret
  exact ⟨rfl, rfl⟩
set_option maxRecDepth 100000 in
set_option maxHeartbeats 400000 in
theorem CmpFlip_s5 (w : World) : Calls Try.prog 15 #[.int .i64 5] w fun e w' => e = .returned (.int .i64 1) ∧ Below w.heap.size w w' := by
  go_enter Try.func15, Try.ntmps15
  go_wp2
  go_ret
  exact ⟨rfl, by repeat (first | exact Below.refl _ _ | refine Below.alloc ?_ (by simp) _ | refine Below.drew ?_)⟩
set_option maxRecDepth 100000 in
set_option maxHeartbeats 400000 in
theorem CmpFlip_i6 (w : World) : Calls Try.prog 16 #[.int .i64 6] w fun e w' => e = .returned (.int .i64 2) ∧ w = w' := by
  have ix := FnExactCmpFlip_ix5
  go_enter Try.func16, Try.ntmps16
  go_wp2
  go_ret
  exact ⟨rfl, rfl⟩
set_option maxRecDepth 100000 in
set_option maxHeartbeats 400000 in
theorem CmpFlip_s6 (w : World) : Calls Try.prog 15 #[.int .i64 6] w fun e w' => e = .returned (.int .i64 2) ∧ Below w.heap.size w w' := by
  go_enter Try.func15, Try.ntmps15
  go_wp2
  go_ret
  exact ⟨rfl, by repeat (first | exact Below.refl _ _ | refine Below.alloc ?_ (by simp) _ | refine Below.drew ?_)⟩
set_option maxRecDepth 100000 in
set_option maxHeartbeats 400000 in
theorem CmpSwap_i1 (w : World) : Calls Try.prog 20 #[.int .i64 1] w fun e w' => e = .returned (.int .i64 6) ∧ w = w' := by
  have ix := FnExactCmpSwap_ix0
  go_enter Try.func20, Try.ntmps20
  go_wp2
  go_ret
  exact ⟨rfl, rfl⟩
set_option maxRecDepth 100000 in
set_option maxHeartbeats 400000 in
theorem CmpSwap_s1 (w : World) : Calls Try.prog 19 #[.int .i64 1] w fun e w' => e = .returned (.int .i64 6) ∧ Below w.heap.size w w' := by
  go_enter Try.func19, Try.ntmps19
  go_wp2
  go_ret
  exact ⟨rfl, by repeat (first | exact Below.refl _ _ | refine Below.alloc ?_ (by simp) _ | refine Below.drew ?_)⟩
set_option maxRecDepth 100000 in
set_option maxHeartbeats 400000 in
theorem CmpSwap_i2 (w : World) : Calls Try.prog 20 #[.int .i64 2] w fun e w' => e = .returned (.int .i64 5) ∧ w = w' := by
  have ix := FnExactCmpSwap_ix1
  go_enter Try.func20, Try.ntmps20
  go_wp2
  go_ret
  exact ⟨rfl, rfl⟩
set_option maxRecDepth 100000 in
set_option maxHeartbeats 400000 in
theorem CmpSwap_s2 (w : World) : Calls Try.prog 19 #[.int .i64 2] w fun e w' => e = .returned (.int .i64 5) ∧ Below w.heap.size w w' := by
  go_enter Try.func19, Try.ntmps19
  go_wp2
  go_ret
  exact ⟨rfl, by repeat (first | exact Below.refl _ _ | refine Below.alloc ?_ (by simp) _ | refine Below.drew ?_)⟩
set_option maxRecDepth 100000 in
set_option maxHeartbeats 400000 in
theorem CmpSwap_i3 (w : World) : Calls Try.prog 20 #[.int .i64 3] w fun e w' => e = .returned (.int .i64 3) ∧ w = w' := by
  have ix := FnExactCmpSwap_ix2
  go_enter Try.func20, Try.ntmps20
  go_wp2
  go_ret
  exact ⟨rfl, rfl⟩
set_option maxRecDepth 100000 in
set_option maxHeartbeats 400000 in
theorem CmpSwap_s3 (w : World) : Calls Try.prog 19 #[.int .i64 3] w fun e w' => e = .returned (.int .i64 3) ∧ Below w.heap.size w w' := by
  go_enter Try.func19, Try.ntmps19
  go_wp2
  go_ret
  exact ⟨rfl, by repeat (first | exact Below.refl _ _ | refine Below.alloc ?_ (by simp) _ | refine Below.drew ?_)⟩
set_option maxRecDepth 100000 in
set_option maxHeartbeats 400000 in
theorem CmpSwap_i4 (w : World) : Calls Try.prog 20 #[.int .i64 4] w fun e w' => e = .returned (.int .i64 4) ∧ w = w' := by
  have ix := FnExactCmpSwap_ix3
  go_enter Try.func20, Try.ntmps20
  go_wp2
  go_ret
  exact ⟨rfl, rfl⟩
set_option maxRecDepth 100000 in
set_option maxHeartbeats 400000 in
theorem CmpSwap_s4 (w : World) : Calls Try.prog 19 #[.int .i64 4] w fun e w' => e = .returned (.int .i64 4) ∧ Below w.heap.size w w' := by
  go_enter Try.func19, Try.ntmps19
  go_wp2
  go_ret
  exact ⟨rfl, by repeat (first | exact Below.refl _ _ | refine Below.alloc ?_ (by simp) _ | refine Below.drew ?_)⟩
set_option maxRecDepth 100000 in
set_option maxHeartbeats 400000 in
theorem CmpSwap_i5 (w : World) : Calls Try.prog 20 #[.int .i64 5] w fun e w' => e = .returned (.int .i64 2) ∧ w = w' := by
  have ix := FnExactCmpSwap_ix4
  go_enter Try.func20, Try.ntmps20
  go_wp2
  go_ret
  exact ⟨rfl, rfl⟩
set_option maxRecDepth 100000 in
set_option maxHeartbeats 400000 in
theorem CmpSwap_s5 (w : World) : Calls Try.prog 19 #[.int .i64 5] w fun e w' => e = .returned (.int .i64 2) ∧ Below w.heap.size w w' := by
  go_enter Try.func19, Try.ntmps19
  go_wp2
  go_ret
  exact ⟨rfl, by repeat (first | exact Below.refl _ _ | refine Below.alloc ?_ (by simp) _ | refine Below.drew ?_)⟩
set_option maxRecDepth 100000 in
set_option maxHeartbeats 400000 in
theorem CmpSwap_i6 (w : World) : Calls Try.prog 20 #[.int .i64 6] w fun e w' => e = .returned (.int .i64 1) ∧ w = w' := by
  have ix := FnExactCmpSwap_ix5
  go_enter Try.func20, Try.ntmps20
  go_wp2
  go_ret
  exact ⟨rfl, rfl⟩
set_option maxRecDepth 100000 in
set_option maxHeartbeats 400000 in
theorem CmpSwap_s6 (w : World) : Calls Try.prog 19 #[.int .i64 6] w fun e w' => e = .returned (.int .i64 1) ∧ Below w.heap.size w w' := by
  go_enter Try.func19, Try.ntmps19
  go_wp2
  go_ret
  exact ⟨rfl, by repeat (first | exact Below.refl _ _ | refine Below.alloc ?_ (by simp) _ | refine Below.drew ?_)⟩
set_option maxRecDepth 100000 in
set_option maxHeartbeats 400000 in
theorem wcmp_1 (a b : Int) (h1 : a.natAbs ≤ 9007199254740992) (h2 : b.natAbs ≤ 9007199254740992) (w : World) : Calls Try.prog 24 #[.int .i64 1, .int .i16 a, .int .i16 b] w fun e w' => e = .returned (.bool (decide (a < b))) ∧ w = w' := by
  have e := Fl.int_lss h1 h2
  clear h1 h2
  go_enter Try.func24, Try.ntmps24
  go_wp2
  go_ret
  exact ⟨rfl, rfl⟩
set_option maxRecDepth 100000 in
set_option maxHeartbeats 400000 in
theorem rcmp_1 (x y : Nat) (w : World) : Calls Try.prog 22 #[.int .i64 1, .float .f64 x, .float .f64 y] w fun e w' => e = .returned (.bool (FloatKind.f64.format.order x y == some .lt)) ∧ w = w' := by
  go_enter Try.func22, Try.ntmps22
  go_wp2
  go_ret
  exact ⟨rfl, rfl⟩
set_option maxRecDepth 100000 in
set_option maxHeartbeats 400000 in
theorem wcmp_2 (a b : Int) (h1 : a.natAbs ≤ 9007199254740992) (h2 : b.natAbs ≤ 9007199254740992) (w : World) : Calls Try.prog 24 #[.int .i64 2, .int .i16 a, .int .i16 b] w fun e w' => e = .returned (.bool (decide (a ≤ b))) ∧ w = w' := by
  have e := Fl.int_leq h1 h2
  clear h1 h2
  go_enter Try.func24, Try.ntmps24
  go_wp2
  go_ret
  exact ⟨rfl, rfl⟩
set_option maxRecDepth 100000 in
set_option maxHeartbeats 400000 in
theorem rcmp_2 (x y : Nat) (w : World) : Calls Try.prog 22 #[.int .i64 2, .float .f64 x, .float .f64 y] w fun e w' => e = .returned (.bool (FloatKind.f64.format.order x y == some .lt || FloatKind.f64.format.order x y == some .eq)) ∧ w = w' := by
  go_enter Try.func22, Try.ntmps22
  go_wp2
  go_ret
  exact ⟨rfl, rfl⟩
set_option maxRecDepth 100000 in
set_option maxHeartbeats 400000 in
theorem wcmp_3 (a b : Int) (h1 : a.natAbs ≤ 9007199254740992) (h2 : b.natAbs ≤ 9007199254740992) (w : World) : Calls Try.prog 24 #[.int .i64 3, .int .i16 a, .int .i16 b] w fun e w' => e = .returned (.bool (a == b)) ∧ w = w' := by
  have e := Fl.int_eql h1 h2
  clear h1 h2
  go_enter Try.func24, Try.ntmps24
  go_wp2
  go_ret
  exact ⟨rfl, rfl⟩
set_option maxRecDepth 100000 in
set_option maxHeartbeats 400000 in
theorem rcmp_3 (x y : Nat) (w : World) : Calls Try.prog 22 #[.int .i64 3, .float .f64 x, .float .f64 y] w fun e w' => e = .returned (.bool (FloatKind.f64.format.order x y == some .eq)) ∧ w = w' := by
  go_enter Try.func22, Try.ntmps22
  go_wp2
  go_ret
  exact ⟨rfl, rfl⟩
set_option maxRecDepth 100000 in
set_option maxHeartbeats 400000 in
theorem wcmp_4 (a b : Int) (h1 : a.natAbs ≤ 9007199254740992) (h2 : b.natAbs ≤ 9007199254740992) (w : World) : Calls Try.prog 24 #[.int .i64 4, .int .i16 a, .int .i16 b] w fun e w' => e = .returned (.bool (a != b)) ∧ w = w' := by
  have e := Fl.int_neq h1 h2
  clear h1 h2
  go_enter Try.func24, Try.ntmps24
  go_wp2
  go_ret
  exact ⟨rfl, rfl⟩
set_option maxRecDepth 100000 in
set_option maxHeartbeats 400000 in
theorem rcmp_4 (x y : Nat) (w : World) : Calls Try.prog 22 #[.int .i64 4, .float .f64 x, .float .f64 y] w fun e w' => e = .returned (.bool (FloatKind.f64.format.order x y != some .eq)) ∧ w = w' := by
  go_enter Try.func22, Try.ntmps22
  go_wp2
  go_ret
  exact ⟨rfl, rfl⟩
set_option maxRecDepth 100000 in
set_option maxHeartbeats 400000 in
theorem wcmp_5 (a b : Int) (h1 : a.natAbs ≤ 9007199254740992) (h2 : b.natAbs ≤ 9007199254740992) (w : World) : Calls Try.prog 24 #[.int .i64 5, .int .i16 a, .int .i16 b] w fun e w' => e = .returned (.bool (decide (b ≤ a))) ∧ w = w' := by
  have e := Fl.int_geq h1 h2
  clear h1 h2
  go_enter Try.func24, Try.ntmps24
  go_wp2
  go_ret
  exact ⟨rfl, rfl⟩
set_option maxRecDepth 100000 in
set_option maxHeartbeats 400000 in
theorem rcmp_5 (x y : Nat) (w : World) : Calls Try.prog 22 #[.int .i64 5, .float .f64 x, .float .f64 y] w fun e w' => e = .returned (.bool (FloatKind.f64.format.order x y == some .gt || FloatKind.f64.format.order x y == some .eq)) ∧ w = w' := by
  go_enter Try.func22, Try.ntmps22
  go_wp2
  go_ret
  exact ⟨rfl, rfl⟩
set_option maxRecDepth 100000 in
set_option maxHeartbeats 400000 in
theorem wcmp_6 (a b : Int) (h1 : a.natAbs ≤ 9007199254740992) (h2 : b.natAbs ≤ 9007199254740992) (w : World) : Calls Try.prog 24 #[.int .i64 6, .int .i16 a, .int .i16 b] w fun e w' => e = .returned (.bool (decide (b < a))) ∧ w = w' := by
  have e := Fl.int_gtr h1 h2
  clear h1 h2
  go_enter Try.func24, Try.ntmps24
  go_wp2
  go_ret
  exact ⟨rfl, rfl⟩
set_option maxRecDepth 100000 in
set_option maxHeartbeats 400000 in
theorem rcmp_6 (x y : Nat) (w : World) : Calls Try.prog 22 #[.int .i64 6, .float .f64 x, .float .f64 y] w fun e w' => e = .returned (.bool (FloatKind.f64.format.order x y == some .gt)) ∧ w = w' := by
  go_enter Try.func22, Try.ntmps22
  go_wp2
  go_ret
  exact ⟨rfl, rfl⟩
/-- A DRAW OF TWO WHOLE NUMBERS, of two doubles. -/
def DrawnWholes (w : World) (e : Ending) (w' : World) : Prop :=
  ∃ x a b : Int, e = .returned (.tuple #[.int .i64 x, .int .i16 a, .int .i16 b]) ∧ (-32768 ≤ a ∧ a ≤ 32767) ∧ (-32768 ≤ b ∧ b ≤ 32767) ∧ Below w.heap.size w w'
def DrawnReals (w : World) (e : Ending) (w' : World) : Prop :=
  ∃ (x : Int) (a b : Nat), e = .returned (.tuple #[.int .i64 x, .float .f64 a, .float .f64 b]) ∧ a < 18446744073709551616 ∧ b < 18446744073709551616 ∧ Below w.heap.size w w'
set_option maxRecDepth 100000 in
set_option maxHeartbeats 400000 in
theorem drawWholeCmp_any (aa : Option Addr) (n c : Nat) (w : World) (h : IsCode w aa n c) : Calls Try.prog 33 #[.slice aa n c] w (DrawnWholes w) := by
  go_enter Try.func33, Try.ntmps33
  go_wp2_with fail
  refine (open_any aa n c w h).mono ?_
  rintro e w1 ⟨rfl, hr1, hb1, hs1⟩
  go_wp2_with fail
  refine (l3Op_any w1 w.heap.size 0 hr1 (by omega)).mono ?_
  rintro e w2 ⟨x, rfl, _, hr2, ho2⟩
  go_wp2_with fail
  refine (l3Whole_any w2 w.heap.size (0 + 2) hr2 (by omega)).mono ?_
  rintro e w3 ⟨a, rfl, ha, hr3, ho3⟩
  go_wp2_with fail
  refine (pick_any w3 w.heap.size _ 3 hr3 (by omega)).mono ?_
  rintro e w4 ⟨y, rfl, _, _, _, hr4, ho4⟩
  have hB : Below w.heap.size w w4 := Only.below hb1 ((ho2.trans ho3).trans ho4) hb1.size (Nat.le_refl _)
  clear hr1 hr2 hr3 ho2 ho3 ho4 hb1 h
  by_cases hz : y = 0
  · subst hz
    go_wp2
    go_ret3
    exact ⟨x, a, _, rfl, ha, ha, hB⟩
  · have hz' : (y == 0) = false := by simpa using hz
    go_wp2_with fail
    refine (l3Whole_any w4 w.heap.size _ hr4 (by omega)).mono ?_
    rintro e w5 ⟨b, rfl, hb, hr5, ho5⟩
    clear hr4
    go_wp2
    go_ret3
    exact ⟨x, a, b, rfl, ha, hb, Only.below hB ho5 hB.size (Nat.le_refl _)⟩
set_option maxRecDepth 100000 in
set_option maxHeartbeats 400000 in
theorem drawRealCmp_any (aa : Option Addr) (n c : Nat) (w : World) (h : IsCode w aa n c) : Calls Try.prog 34 #[.slice aa n c] w (DrawnReals w) := by
  go_enter Try.func34, Try.ntmps34
  go_wp2_with fail
  refine (open_any aa n c w h).mono ?_
  rintro e w1 ⟨rfl, hr1, hb1, hs1⟩
  go_wp2_with fail
  refine (l3Op_any w1 w.heap.size 0 hr1 (by omega)).mono ?_
  rintro e w2 ⟨x, rfl, _, hr2, ho2⟩
  go_wp2_with fail
  refine (l3Real_any w2 w.heap.size (0 + 2) hr2 (by omega)).mono ?_
  rintro e w3 ⟨a, rfl, ha, hr3, ho3⟩
  go_wp2_with fail
  refine (pick_any w3 w.heap.size _ 3 hr3 (by omega)).mono ?_
  rintro e w4 ⟨y, rfl, _, _, _, hr4, ho4⟩
  have hB : Below w.heap.size w w4 := Only.below hb1 ((ho2.trans ho3).trans ho4) hb1.size (Nat.le_refl _)
  clear hr1 hr2 hr3 ho2 ho3 ho4 hb1 h
  by_cases hz : y = 0
  · subst hz
    go_wp2
    go_ret3
    exact ⟨x, a, _, rfl, ha, ha, hB⟩
  · have hz' : (y == 0) = false := by simpa using hz
    go_wp2_with fail
    refine (l3Real_any w4 w.heap.size _ hr4 (by omega)).mono ?_
    rintro e w5 ⟨b, rfl, hb, hr5, ho5⟩
    clear hr4
    go_wp2
    go_ret3
    exact ⟨x, a, b, rfl, ha, hb, Only.below hB ho5 hB.size (Nat.le_refl _)⟩
end Go.Proofs.Ytmbmdemoghdggaa
