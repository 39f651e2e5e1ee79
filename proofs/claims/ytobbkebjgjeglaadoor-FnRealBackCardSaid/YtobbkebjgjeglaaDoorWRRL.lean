/- The walk of FnExactRealRead. -/
import Derived.Test.YtobbkebjgjeglaaDoorRows
import Derived.Test.YtobbkebjgjeglaaDoorWRI
import Derived.WalkKit
import Derived.WalkSpells
import Derived.WalkLawsBesides
import Derived.OpenShut
import Derived.IntWalk
import Derived.Lib.Hide
import Derived.Deep.QuietTactic
import Derived.BigQuiet
import Derived.Laws.FloatArith
namespace Go.Proofs.YtobbkebjgjeglaaDoor
open Go.RowKit Bx ItoP RealP Fl RealR RealG
set_option linter.unusedVariables false

open Fl in
set_option maxHeartbeats 400000 in
theorem sameFloat_nan (a b : Nat) (ha : isNaN a) (hb : isNaN b) (w : World) : Calls Tryd.prog 8 #[.float .f64 a, .float .f64 b] w fun e w' => e = .returned (.bool true) ∧ w = w' := by
  have e1 := ord_nan_l ha
  have e2 := ord_nan_l hb
  clear ha hb
  go_enter Tryd.func8, Tryd.ntmps8
  go_wp2
  go_ret
  exact ⟨rfl, rfl⟩
open Fl in
set_option maxHeartbeats 400000 in
theorem sameFloat_same (a : Nat) (ha : a < 18446744073709551616) (w : World) : Calls Tryd.prog 8 #[.float .f64 a, .float .f64 a] w fun e w' => e = .returned (.bool true) ∧ w = w' := by
  by_cases hn : isNaN a
  · exact sameFloat_nan a a hn hn w
  have e1 := ord_self hn
  have e2 := ord_zero hn
  by_cases hz : rung a = 0
  · have e3 : (FloatKind.f64.format.order a 0 == some .eq) = true := by rw [e2, hz]; rfl
    have hd := one_div_zero ha hz
    have e4 := fun (w : World) (t : TypeId) => run_float_arith (P := Tryd.prog) w .quo t .f64 _ _ _ hd
    have e5 := word_inf_pos (neg a)
    clear e2 hn ha hz hd
    generalize neg a = s at *
    generalize word s 9218868437227405312 = q at *
    go_enter Tryd.func8, Tryd.ntmps8
    go_wp2
    go_ret
    exact ⟨rfl, rfl⟩
  · have e3 : (FloatKind.f64.format.order a 0 == some .eq) = false := by rw [e2]; simpa using hz
    clear e2 hn ha hz
    go_enter Tryd.func8, Tryd.ntmps8
    go_wp2
    go_ret
    exact ⟨rfl, rfl⟩

theorem sameFloat_of {x z : Nat} (hx : x < 18446744073709551616) (h : (isNaN x ∧ isNaN z) ∨ x = z) (w : World) : Calls Tryd.prog 8 #[.float .f64 x, .float .f64 z] w fun e w' => e = .returned (.bool true) ∧ w = w' := by
  rcases h with ⟨h1, h2⟩ | rfl
  · exact sameFloat_nan x z h1 h2 w
  · exact sameFloat_same x hx w
open Fl in
set_option maxHeartbeats 400000 in
theorem wrSame_nan (a b : Nat) (ha : isNaN a) (hb : isNaN b) (w : World) : Calls Tryd.prog 11 #[.float .f64 a, .float .f64 b] w fun e w' => e = .returned (.bool true) ∧ w = w' := by
  have e1 := ord_nan_l ha
  have e2 := ord_nan_l hb
  clear ha hb
  go_enter Tryd.func11, Tryd.ntmps11
  go_wp2
  go_ret
  exact ⟨rfl, rfl⟩
open Fl in
set_option maxHeartbeats 400000 in
theorem wrSame_same (a : Nat) (ha : a < 18446744073709551616) (w : World) : Calls Tryd.prog 11 #[.float .f64 a, .float .f64 a] w fun e w' => e = .returned (.bool true) ∧ w = w' := by
  by_cases hn : isNaN a
  · exact wrSame_nan a a hn hn w
  have e1 := ord_self hn
  have e2 := ord_zero hn
  by_cases hz : rung a = 0
  · have e3 : (FloatKind.f64.format.order a 0 == some .eq) = true := by rw [e2, hz]; rfl
    have e3' : (FloatKind.f64.format.order a 0 != some .eq) = false := by rw [bne, e3]; rfl
    have hd := one_div_zero ha hz
    have e4 := fun (w : World) (t : TypeId) => run_float_arith (P := Tryd.prog) w .quo t .f64 _ _ _ hd
    have e5 := word_inf_pos (neg a)
    clear e2 hn ha hz hd
    generalize neg a = s at *
    generalize word s 9218868437227405312 = q at *
    go_enter Tryd.func11, Tryd.ntmps11
    go_wp2
    go_ret
    exact ⟨rfl, rfl⟩
  · have e3 : (FloatKind.f64.format.order a 0 == some .eq) = false := by rw [e2]; simpa using hz
    have e3' : (FloatKind.f64.format.order a 0 != some .eq) = true := by rw [bne, e3]; rfl
    clear e2 hn ha hz
    go_enter Tryd.func11, Tryd.ntmps11
    go_wp2
    go_ret
    exact ⟨rfl, rfl⟩

theorem wrSame_of {x z : Nat} (hx : x < 18446744073709551616) (h : (isNaN x ∧ isNaN z) ∨ x = z) (w : World) : Calls Tryd.prog 11 #[.float .f64 x, .float .f64 z] w fun e w' => e = .returned (.bool true) ∧ w = w' := by
  rcases h with ⟨h1, h2⟩ | rfl
  · exact wrSame_nan x z h1 h2 w
  · exact wrSame_same x hx w
set_option maxRecDepth 100000 in
set_option maxHeartbeats 1000000 in
theorem exact_big (t : ByteArray) (h : 1048576 < t.size) (w : World) : Calls Tryd.prog 3 #[.string t] w fun e w' => e = .returned (.bool true) ∧ Below w.heap.size w w' := by
  have d : (1048576 : Int) < (t.size : Int) := by omega
  go_enter Tryd.func3, Tryd.ntmps3
  go_wp2
  go_ret
  exact ⟨rfl, Below.refl _ _⟩
set_option maxRecDepth 100000 in
set_option maxHeartbeats 1000000 in
theorem exact_small (t : ByteArray) (h : t.size ≤ 1048576) (w : World) (henv : REnv w) : Calls Tryd.prog 3 #[.string t] w fun e w' => e = .returned (.bool true) ∧ Below w.heap.size w w' := by
  have d : ¬ (1048576 : Int) < (t.size : Int) := by omega
  have hs := fun w => realRead_s_any t h w
  have hi := fun w' (hb : Below w.heap.size w w') => realRead_i_any t h w' (henv.kept hb)
  clear henv
  go_enter Tryd.func3, Tryd.ntmps3
  go_wp2_with fail
  refine (hs _).mono ?_
  rintro e w1 ⟨x, k1, rfl, hr1, hB1⟩
  have HR1 := Lib.hid hr1
  clear hs hr1
  go_wp2_with fail
  refine (hi _ hB1).mono ?_
  rintro e w2 ⟨y, k2, rfl, hr2, hb2⟩
  have hB2 := bel_step hB1 hb2 hB1.size
  have hsame := hr2.same HR1.out
  obtain ⟨rfl, hsame⟩ := hsame
  have hf := sameFloat_of hr2.1 hsame
  clear hi hb2 hr2 HR1 hsame hB1
  go_wp2_with fail
  refine (hf _).mono ?_
  rintro e w3 ⟨rfl, rfl⟩
  clear hf
  go_wp2
  go_ret
  exact ⟨rfl, hB2⟩
theorem FnExactRealRead_env (t : ByteArray) (w : World) (henv : REnv w) : Calls Tryd.prog 3 #[.string t] w fun e w' => e = .returned (.bool true) ∧ Below w.heap.size w w' := by
  by_cases h : 1048576 < t.size
  · exact exact_big t h w
  · exact exact_small t (by omega) w henv
end Go.Proofs.YtobbkebjgjeglaaDoor
