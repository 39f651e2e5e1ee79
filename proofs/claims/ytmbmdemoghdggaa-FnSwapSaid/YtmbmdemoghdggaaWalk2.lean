/- The walks of sameFloat, FnExactWholeCmp, FnExactRealCalc: each law returns true and changes nothing that was there. -/
import Derived.Test.YtmbmdemoghdggaaRows
import Derived.Test.YtmbmdemoghdggaaFlo4
import Derived.WalkKit
import Derived.WalkSpells
import Derived.WalkLawsBesides
import Derived.OpenShut
namespace Go.Proofs.Ytmbmdemoghdggaa
open Go.RowKit
set_option linter.unusedVariables false

open Fl in
set_option maxHeartbeats 400000 in
theorem sameFloat_nan (a b : Nat) (ha : isNaN a) (hb : isNaN b) (w : World) : Calls Try.prog 27 #[.float .f64 a, .float .f64 b] w fun e w' => e = .returned (.bool true) ∧ w = w' := by
  have e1 := ord_nan_l ha
  have e2 := ord_nan_l hb
  clear ha hb
  go_enter Try.func27, Try.ntmps27
  go_wp2
  go_ret
  exact ⟨rfl, rfl⟩
open Fl in
set_option maxHeartbeats 400000 in
theorem sameFloat_same (a : Nat) (ha : a < 18446744073709551616) (w : World) : Calls Try.prog 27 #[.float .f64 a, .float .f64 a] w fun e w' => e = .returned (.bool true) ∧ w = w' := by
  by_cases hn : isNaN a
  · exact sameFloat_nan a a hn hn w
  have e1 := ord_self hn
  have e2 := ord_zero hn
  by_cases hz : rung a = 0
  · have e3 : (FloatKind.f64.format.order a 0 == some .eq) = true := by rw [e2, hz]; rfl
    have hd := one_div_zero ha hz
    have e4 := fun (w : World) (t : TypeId) => run_float_arith (P := Try.prog) w .quo t .f64 _ _ _ hd
    have e5 := word_inf_pos (neg a)
    clear e2 hn ha hz hd
    generalize neg a = s at *
    generalize word s 9218868437227405312 = q at *
    go_enter Try.func27, Try.ntmps27
    go_wp2
    go_ret
    exact ⟨rfl, rfl⟩
  · have e3 : (FloatKind.f64.format.order a 0 == some .eq) = false := by rw [e2]; simpa using hz
    clear e2 hn ha hz
    go_enter Try.func27, Try.ntmps27
    go_wp2
    go_ret
    exact ⟨rfl, rfl⟩

set_option maxHeartbeats 400000 in
theorem FnExactWholeCmp_low (a0 : Int) (h1 : a0 < 1) (a1 a2 : Int) (w : World) :
    Calls Try.prog 8 #[.int .i64 a0, .int .i16 a1, .int .i16 a2] w fun e w' => e = .returned (.bool true) ∧ Below w.heap.size w w' := by
  go_enter Try.func8, Try.ntmps8
  go_wp2
  go_ret
  exact ⟨rfl, Below.refl _ _⟩
set_option maxHeartbeats 400000 in
theorem FnExactWholeCmp_high (a0 : Int) (h1 : 6 < a0) (a1 a2 : Int) (w : World) :
    Calls Try.prog 8 #[.int .i64 a0, .int .i16 a1, .int .i16 a2] w fun e w' => e = .returned (.bool true) ∧ Below w.heap.size w w' := by
  go_enter Try.func8, Try.ntmps8
  go_wp2
  go_ret
  exact ⟨rfl, Below.refl _ _⟩
set_option maxHeartbeats 400000 in
theorem FnExactWholeCmp_at0 (a1 a2 : Int) (h1 : a1.natAbs ≤ 9007199254740992) (h2 : a2.natAbs ≤ 9007199254740992) (w : World) : Calls Try.prog 8 #[.int .i64 1, .int .i16 a1, .int .i16 a2] w fun e w' => e = .returned (.bool true) ∧ Below w.heap.size w w' := by
  have e := Fl.int_lss h1 h2
  clear h1 h2
  go_enter Try.func8, Try.ntmps8
  go_wp2
  go_ret
  exact ⟨rfl, Below.refl _ _⟩
set_option maxHeartbeats 400000 in
theorem FnExactWholeCmp_at1 (a1 a2 : Int) (h1 : a1.natAbs ≤ 9007199254740992) (h2 : a2.natAbs ≤ 9007199254740992) (w : World) : Calls Try.prog 8 #[.int .i64 2, .int .i16 a1, .int .i16 a2] w fun e w' => e = .returned (.bool true) ∧ Below w.heap.size w w' := by
  have e := Fl.int_leq h1 h2
  clear h1 h2
  go_enter Try.func8, Try.ntmps8
  go_wp2
  go_ret
  exact ⟨rfl, Below.refl _ _⟩
set_option maxHeartbeats 400000 in
theorem FnExactWholeCmp_at2 (a1 a2 : Int) (h1 : a1.natAbs ≤ 9007199254740992) (h2 : a2.natAbs ≤ 9007199254740992) (w : World) : Calls Try.prog 8 #[.int .i64 3, .int .i16 a1, .int .i16 a2] w fun e w' => e = .returned (.bool true) ∧ Below w.heap.size w w' := by
  have e := Fl.int_eql h1 h2
  clear h1 h2
  go_enter Try.func8, Try.ntmps8
  go_wp2
  go_ret
  exact ⟨rfl, Below.refl _ _⟩
set_option maxHeartbeats 400000 in
theorem FnExactWholeCmp_at3 (a1 a2 : Int) (h1 : a1.natAbs ≤ 9007199254740992) (h2 : a2.natAbs ≤ 9007199254740992) (w : World) : Calls Try.prog 8 #[.int .i64 4, .int .i16 a1, .int .i16 a2] w fun e w' => e = .returned (.bool true) ∧ Below w.heap.size w w' := by
  have e := Fl.int_neq h1 h2
  clear h1 h2
  go_enter Try.func8, Try.ntmps8
  go_wp2
  go_ret
  exact ⟨rfl, Below.refl _ _⟩
set_option maxHeartbeats 400000 in
theorem FnExactWholeCmp_at4 (a1 a2 : Int) (h1 : a1.natAbs ≤ 9007199254740992) (h2 : a2.natAbs ≤ 9007199254740992) (w : World) : Calls Try.prog 8 #[.int .i64 5, .int .i16 a1, .int .i16 a2] w fun e w' => e = .returned (.bool true) ∧ Below w.heap.size w w' := by
  have e := Fl.int_geq h1 h2
  clear h1 h2
  go_enter Try.func8, Try.ntmps8
  go_wp2
  go_ret
  exact ⟨rfl, Below.refl _ _⟩
set_option maxHeartbeats 400000 in
theorem FnExactWholeCmp_at5 (a1 a2 : Int) (h1 : a1.natAbs ≤ 9007199254740992) (h2 : a2.natAbs ≤ 9007199254740992) (w : World) : Calls Try.prog 8 #[.int .i64 6, .int .i16 a1, .int .i16 a2] w fun e w' => e = .returned (.bool true) ∧ Below w.heap.size w w' := by
  have e := Fl.int_gtr h1 h2
  clear h1 h2
  go_enter Try.func8, Try.ntmps8
  go_wp2
  go_ret
  exact ⟨rfl, Below.refl _ _⟩
theorem FnExactWholeCmp_walk (a0 : Int) (w0 : (Lit.int .i64 a0).wf = true) (a1 : Int) (w1 : (Lit.int .i16 a1).wf = true) (a2 : Int) (w2 : (Lit.int .i16 a2).wf = true) (w : World) :
    Calls Try.prog 8 #[.int .i64 a0, .int .i16 a1, .int .i16 a2] w fun e w' => e = .returned (.bool true) ∧ Below w.heap.size w w' := by
  have b1 := bounds_i16 w1
  have b2 := bounds_i16 w2
  by_cases h1 : a0 < 1
  · exact FnExactWholeCmp_low a0 h1 a1 a2 w
  by_cases h2 : 6 < a0
  · exact FnExactWholeCmp_high a0 h2 a1 a2 w
  have h3 : a0 = 1 ∨ a0 = 2 ∨ a0 = 3 ∨ a0 = 4 ∨ a0 = 5 ∨ a0 = 6 := by omega
  rcases h3 with rfl | rfl | rfl | rfl | rfl | rfl
  · exact FnExactWholeCmp_at0 a1 a2 (by omega) (by omega) w
  · exact FnExactWholeCmp_at1 a1 a2 (by omega) (by omega) w
  · exact FnExactWholeCmp_at2 a1 a2 (by omega) (by omega) w
  · exact FnExactWholeCmp_at3 a1 a2 (by omega) (by omega) w
  · exact FnExactWholeCmp_at4 a1 a2 (by omega) (by omega) w
  · exact FnExactWholeCmp_at5 a1 a2 (by omega) (by omega) w

theorem frombits (n : Int) (w : World) : (callFunc 46 #[.int .u64 n]).run Try.prog w = .ok (.value (.float .f64 n.toNat)) w := by
  rw [run_callFunc_extern (e := Extern.MathFloatBits.float64frombits) Try.func46 (by kernel_rfl) (by kernel_rfl) (by kernel_rfl) (by kernel_rfl)]; rfl
set_option maxHeartbeats 400000 in
theorem FnExactRealCalc_ok0 (a1 a2 r : Nat) (h : floatBits .add .f64 a1 a2 = some r) (w : World) : Calls Try.prog 9 #[.int .i64 1, .float .f64 a1, .float .f64 a2] w fun e w' => e = .returned (.bool true) ∧ Below w.heap.size w w' := by
  have hr : r < 18446744073709551616 := by have := floatBits_wf h; simpa [Lit.wf] using this
  have e := fun (w : World) (t : TypeId) => run_float_arith (P := Try.prog) w .add t .f64 _ _ _ h
  clear h
  go_enter Try.func9, Try.ntmps9
  go_wp2_with (first | (go_at_call 27; refine (sameFloat_same r hr _).mono ?_; rintro e w' ⟨rfl, rfl⟩) | go_in)
  go_ret
  exact ⟨rfl, Below.refl _ _⟩
set_option maxHeartbeats 400000 in
theorem FnExactRealCalc_no0 (a1 a2 : Nat) (h : floatBits .add .f64 a1 a2 = none) (w : World) : Calls Try.prog 9 #[.int .i64 1, .float .f64 a1, .float .f64 a2] w fun e w' => e = .returned (.bool true) ∧ Below w.heap.size w w' := by
  have e := fun (t : TypeId) => Fl.run_float_nan (P := Try.prog) .add (by simp) t _ _ h
  have n1 := (Fl.nanAt_nan w a1 a2).1
  have n2 := (Fl.nanAt_nan w.drew a1 a2).1
  clear h
  go_enter Try.func9, Try.ntmps9
  go_wp2_with (first | (go_at_call 27; refine (sameFloat_nan _ _ n2 n1 _).mono ?_; rintro e w' ⟨rfl, rfl⟩) | go_in)
  go_ret
  exact ⟨rfl, by repeat (first | exact Below.refl _ _ | refine Below.alloc ?_ (by simp) _ | refine Below.drew ?_)⟩
set_option maxHeartbeats 400000 in
theorem FnExactRealCalc_ok1 (a1 a2 r : Nat) (h : floatBits .sub .f64 a1 a2 = some r) (w : World) : Calls Try.prog 9 #[.int .i64 2, .float .f64 a1, .float .f64 a2] w fun e w' => e = .returned (.bool true) ∧ Below w.heap.size w w' := by
  have hr : r < 18446744073709551616 := by have := floatBits_wf h; simpa [Lit.wf] using this
  have e := fun (w : World) (t : TypeId) => run_float_arith (P := Try.prog) w .sub t .f64 _ _ _ h
  clear h
  go_enter Try.func9, Try.ntmps9
  go_wp2_with (first | (go_at_call 27; refine (sameFloat_same r hr _).mono ?_; rintro e w' ⟨rfl, rfl⟩) | go_in)
  go_ret
  exact ⟨rfl, Below.refl _ _⟩
set_option maxHeartbeats 400000 in
theorem FnExactRealCalc_no1 (a1 a2 : Nat) (h : floatBits .sub .f64 a1 a2 = none) (w : World) : Calls Try.prog 9 #[.int .i64 2, .float .f64 a1, .float .f64 a2] w fun e w' => e = .returned (.bool true) ∧ Below w.heap.size w w' := by
  have e := fun (t : TypeId) => Fl.run_float_nan (P := Try.prog) .sub (by simp) t _ _ h
  have n1 := (Fl.nanAt_nan w a1 a2).1
  have n2 := (Fl.nanAt_nan w.drew a1 a2).1
  clear h
  go_enter Try.func9, Try.ntmps9
  go_wp2_with (first | (go_at_call 27; refine (sameFloat_nan _ _ n2 n1 _).mono ?_; rintro e w' ⟨rfl, rfl⟩) | go_in)
  go_ret
  exact ⟨rfl, by repeat (first | exact Below.refl _ _ | refine Below.alloc ?_ (by simp) _ | refine Below.drew ?_)⟩
set_option maxHeartbeats 400000 in
theorem FnExactRealCalc_ok2 (a1 a2 r : Nat) (h : floatBits .mul .f64 a1 a2 = some r) (w : World) : Calls Try.prog 9 #[.int .i64 3, .float .f64 a1, .float .f64 a2] w fun e w' => e = .returned (.bool true) ∧ Below w.heap.size w w' := by
  have hr : r < 18446744073709551616 := by have := floatBits_wf h; simpa [Lit.wf] using this
  have e := fun (w : World) (t : TypeId) => run_float_arith (P := Try.prog) w .mul t .f64 _ _ _ h
  clear h
  go_enter Try.func9, Try.ntmps9
  go_wp2_with (first | (go_at_call 27; refine (sameFloat_same r hr _).mono ?_; rintro e w' ⟨rfl, rfl⟩) | go_in)
  go_ret
  exact ⟨rfl, Below.refl _ _⟩
set_option maxHeartbeats 400000 in
theorem FnExactRealCalc_no2 (a1 a2 : Nat) (h : floatBits .mul .f64 a1 a2 = none) (w : World) : Calls Try.prog 9 #[.int .i64 3, .float .f64 a1, .float .f64 a2] w fun e w' => e = .returned (.bool true) ∧ Below w.heap.size w w' := by
  have e := fun (t : TypeId) => Fl.run_float_nan (P := Try.prog) .mul (by simp) t _ _ h
  have n1 := (Fl.nanAt_nan w a1 a2).1
  have n2 := (Fl.nanAt_nan w.drew a1 a2).1
  clear h
  go_enter Try.func9, Try.ntmps9
  go_wp2_with (first | (go_at_call 27; refine (sameFloat_nan _ _ n2 n1 _).mono ?_; rintro e w' ⟨rfl, rfl⟩) | go_in)
  go_ret
  exact ⟨rfl, by repeat (first | exact Below.refl _ _ | refine Below.alloc ?_ (by simp) _ | refine Below.drew ?_)⟩
set_option maxHeartbeats 400000 in
theorem FnExactRealCalc_ok3 (a1 a2 r : Nat) (h : floatBits .quo .f64 a1 a2 = some r) (w : World) : Calls Try.prog 9 #[.int .i64 4, .float .f64 a1, .float .f64 a2] w fun e w' => e = .returned (.bool true) ∧ Below w.heap.size w w' := by
  have hr : r < 18446744073709551616 := by have := floatBits_wf h; simpa [Lit.wf] using this
  have e := fun (w : World) (t : TypeId) => run_float_arith (P := Try.prog) w .quo t .f64 _ _ _ h
  clear h
  go_enter Try.func9, Try.ntmps9
  go_wp2_with (first | (go_at_call 27; refine (sameFloat_same r hr _).mono ?_; rintro e w' ⟨rfl, rfl⟩) | go_in)
  go_ret
  exact ⟨rfl, Below.refl _ _⟩
set_option maxHeartbeats 400000 in
theorem FnExactRealCalc_no3 (a1 a2 : Nat) (h : floatBits .quo .f64 a1 a2 = none) (w : World) : Calls Try.prog 9 #[.int .i64 4, .float .f64 a1, .float .f64 a2] w fun e w' => e = .returned (.bool true) ∧ Below w.heap.size w w' := by
  have e := fun (t : TypeId) => Fl.run_float_nan (P := Try.prog) .quo (by simp) t _ _ h
  have n1 := (Fl.nanAt_nan w a1 a2).1
  have n2 := (Fl.nanAt_nan w.drew a1 a2).1
  clear h
  go_enter Try.func9, Try.ntmps9
  go_wp2_with (first | (go_at_call 27; refine (sameFloat_nan _ _ n2 n1 _).mono ?_; rintro e w' ⟨rfl, rfl⟩) | go_in)
  go_ret
  exact ⟨rfl, by repeat (first | exact Below.refl _ _ | refine Below.alloc ?_ (by simp) _ | refine Below.drew ?_)⟩
theorem nan_const : Fl.isNaN 9221120237041090561 := by decide
theorem zz_none : floatBits .quo .f64 0 0 = none := by decide
set_option maxHeartbeats 400000 in
theorem FnExactRealCalc_else (a0 : Int) (h : a0 < 1 ∨ 4 < a0) (a1 a2 : Nat) (w : World) :
    Calls Try.prog 9 #[.int .i64 a0, .float .f64 a1, .float .f64 a2] w fun e w' => e = .returned (.bool true) ∧ Below w.heap.size w w' := by
  have e := fun (t : TypeId) => Fl.run_float_nan (P := Try.prog) .quo (by simp) t _ _ zz_none
  have n1 := (Fl.nanAt_nan w 0 0).1
  have n2 := nan_const
  have hb := frombits
  rcases h with h | h
  all_goals
    go_enter Try.func9, Try.ntmps9
    go_wp2_with (first | (go_at_call 27; refine (sameFloat_nan _ _ n2 n1 _).mono ?_; rintro e w' ⟨rfl, rfl⟩) | go_in)
    go_ret
    exact ⟨rfl, by repeat (first | exact Below.refl _ _ | refine Below.alloc ?_ (by simp) _ | refine Below.drew ?_)⟩
theorem FnExactRealCalc_walk (a0 : Int) (w0 : (Lit.int .i64 a0).wf = true) (a1 : Nat) (w1 : (Lit.float .f64 a1).wf = true) (a2 : Nat) (w2 : (Lit.float .f64 a2).wf = true) (w : World) :
    Calls Try.prog 9 #[.int .i64 a0, .float .f64 a1, .float .f64 a2] w fun e w' => e = .returned (.bool true) ∧ Below w.heap.size w w' := by
  by_cases h1 : a0 < 1
  · exact FnExactRealCalc_else a0 (.inl h1) a1 a2 w
  by_cases h2 : 4 < a0
  · exact FnExactRealCalc_else a0 (.inr h2) a1 a2 w
  have h3 : a0 = 1 ∨ a0 = 2 ∨ a0 = 3 ∨ a0 = 4 := by omega
  rcases h3 with rfl | rfl | rfl | rfl
  · cases h : floatBits .add .f64 a1 a2 with
    | some r => exact FnExactRealCalc_ok0 a1 a2 r h w
    | none => exact FnExactRealCalc_no0 a1 a2 h w
  · cases h : floatBits .sub .f64 a1 a2 with
    | some r => exact FnExactRealCalc_ok1 a1 a2 r h w
    | none => exact FnExactRealCalc_no1 a1 a2 h w
  · cases h : floatBits .mul .f64 a1 a2 with
    | some r => exact FnExactRealCalc_ok2 a1 a2 r h w
    | none => exact FnExactRealCalc_no2 a1 a2 h w
  · cases h : floatBits .quo .f64 a1 a2 with
    | some r => exact FnExactRealCalc_ok3 a1 a2 r h w
    | none => exact FnExactRealCalc_no3 a1 a2 h w

end Go.Proofs.Ytmbmdemoghdggaa
