/- The contracts of RealArg, the program's and the reference's, and of the laws' comparisons of floats. -/
import Derived.Test.YtikcabmohlaanaaRows
import Derived.Test.YtikcabmohlaanaaWDev2
import Derived.Test.YtikcabmohlaanaaFlo7
import Derived.WalkKit
import Derived.WalkSpells
import Derived.WalkLawsBesides
import Derived.OpenShut
import Derived.OwnWalk
import Derived.IntWalk
import Derived.Lib.Hide
import Derived.Deep.QuietTactic
import Derived.BigQuiet
namespace Go.Proofs.Ytikcabmohlaanaa
open Go.RowKit Bx
set_option linter.unusedVariables false

theorem frombits (n : Int) (w : World) : (callFunc 37 #[.int .u64 n]).run Try.prog w = .ok (.value (.float .f64 n.toNat)) w := by
  rw [run_callFunc_extern (e := Extern.MathFloatBits.float64frombits) Try.func37 (by kernel_rfl) (by kernel_rfl) (by kernel_rfl) (by kernel_rfl)]; rfl
theorem tobits (n : Nat) (w : World) : (callFunc 38 #[.float .f64 n]).run Try.prog w = .ok (.value (.int .u64 n)) w := by
  rw [run_callFunc_extern (e := Extern.MathFloatBits.float64bits) Try.func38 (by kernel_rfl) (by kernel_rfl) (by kernel_rfl) (by kernel_rfl)]; rfl
set_option maxRecDepth 100000 in
set_option maxHeartbeats 1000000 in
theorem mathNaN (w : World) : Calls Try.prog 24 #[] w fun e w' => e = .returned (.float .f64 9221120237041090561) ∧ w = w' := by
  have hb := frombits
  have hc := tobits
  go_enter Try.func24, Try.ntmps24
  go_wp2_with (go_in)
  go_ret
  exact ⟨rfl, rfl⟩
set_option maxRecDepth 100000 in
set_option maxHeartbeats 1000000 in
theorem mathInf_1 (w : World) : Calls Try.prog 25 #[.int .i64 1] w fun e w' => e = .returned (.float .f64 9218868437227405312) ∧ w = w' := by
  have hb := frombits
  have hc := tobits
  go_enter Try.func25, Try.ntmps25
  go_wp2_with (go_in)
  go_ret
  exact ⟨rfl, rfl⟩
set_option maxRecDepth 100000 in
set_option maxHeartbeats 1000000 in
theorem mathInf_m1 (w : World) : Calls Try.prog 25 #[.int .i64 (-1)] w fun e w' => e = .returned (.float .f64 18442240474082181120) ∧ w = w' := by
  have hb := frombits
  have hc := tobits
  go_enter Try.func25, Try.ntmps25
  go_wp2_with (go_in)
  go_ret
  exact ⟨rfl, rfl⟩
set_option maxRecDepth 100000 in
set_option maxHeartbeats 1000000 in
theorem mathCopysign (w : World) : Calls Try.prog 26 #[.float .f64 0, .float .f64 13830554455654793216] w fun e w' => e = .returned (.float .f64 9223372036854775808) ∧ w = w' := by
  have hb := frombits
  have hc := tobits
  go_enter Try.func26, Try.ntmps26
  go_wp2_with (go_in)
  go_ret
  exact ⟨rfl, rfl⟩
open Fl in
set_option maxHeartbeats 400000 in
theorem sameFloat_nan (a b : Nat) (ha : isNaN a) (hb : isNaN b) (w : World) : Calls Try.prog 9 #[.float .f64 a, .float .f64 b] w fun e w' => e = .returned (.bool true) ∧ w = w' := by
  have e1 := ord_nan_l ha
  have e2 := ord_nan_l hb
  clear ha hb
  go_enter Try.func9, Try.ntmps9
  go_wp2
  go_ret
  exact ⟨rfl, rfl⟩
open Fl in
set_option maxHeartbeats 400000 in
theorem sameFloat_same (a : Nat) (ha : a < 18446744073709551616) (w : World) : Calls Try.prog 9 #[.float .f64 a, .float .f64 a] w fun e w' => e = .returned (.bool true) ∧ w = w' := by
  by_cases hn : isNaN a
  · exact sameFloat_nan a a hn hn w
  have e1 := ord_self hn
  have e2 := ord_zero hn
  by_cases hz : rung a = 0
  · have e3 : (FloatKind.f64.format.order a 0 == some .eq) = true := by rw [e2, hz]; rfl
    have hd := one_div_zero ha hz
    have e4 := fun (w : World) (t : TypeId) => run_float_arith (P := Try.prog) w .quo t .f64 _ _ _ hd
    have e5 := word_inf_pos (neg a)
    clear e2 hn ha hz hd
    generalize neg a = s at *
    generalize word s 9218868437227405312 = q at *
    go_enter Try.func9, Try.ntmps9
    go_wp2
    go_ret
    exact ⟨rfl, rfl⟩
  · have e3 : (FloatKind.f64.format.order a 0 == some .eq) = false := by rw [e2]; simpa using hz
    clear e2 hn ha hz
    go_enter Try.func9, Try.ntmps9
    go_wp2
    go_ret
    exact ⟨rfl, rfl⟩

open Fl in
set_option maxHeartbeats 400000 in
theorem wrSame_nan (a b : Nat) (ha : isNaN a) (hb : isNaN b) (w : World) : Calls Try.prog 11 #[.float .f64 a, .float .f64 b] w fun e w' => e = .returned (.bool true) ∧ w = w' := by
  have e1 := ord_nan_l ha
  have e2 := ord_nan_l hb
  clear ha hb
  go_enter Try.func11, Try.ntmps11
  go_wp2
  go_ret
  exact ⟨rfl, rfl⟩
open Fl in
set_option maxHeartbeats 400000 in
theorem wrSame_same (a : Nat) (ha : a < 18446744073709551616) (w : World) : Calls Try.prog 11 #[.float .f64 a, .float .f64 a] w fun e w' => e = .returned (.bool true) ∧ w = w' := by
  by_cases hn : isNaN a
  · exact wrSame_nan a a hn hn w
  have e1 := ord_self hn
  have e2 := ord_zero hn
  by_cases hz : rung a = 0
  · have e3 : (FloatKind.f64.format.order a 0 == some .eq) = true := by rw [e2, hz]; rfl
    have e3' : (FloatKind.f64.format.order a 0 != some .eq) = false := by rw [bne, e3]; rfl
    have hd := one_div_zero ha hz
    have e4 := fun (w : World) (t : TypeId) => run_float_arith (P := Try.prog) w .quo t .f64 _ _ _ hd
    have e5 := word_inf_pos (neg a)
    clear e2 hn ha hz hd
    generalize neg a = s at *
    generalize word s 9218868437227405312 = q at *
    go_enter Try.func11, Try.ntmps11
    go_wp2
    go_ret
    exact ⟨rfl, rfl⟩
  · have e3 : (FloatKind.f64.format.order a 0 == some .eq) = false := by rw [e2]; simpa using hz
    have e3' : (FloatKind.f64.format.order a 0 != some .eq) = true := by rw [bne, e3]; rfl
    clear e2 hn ha hz
    go_enter Try.func11, Try.ntmps11
    go_wp2
    go_ret
    exact ⟨rfl, rfl⟩

theorem zz_none : floatBits .quo .f64 0 0 = none := by decide
theorem oz_inf : floatBits .quo .f64 4607182418800017408 0 = some 9218868437227405312 := by decide
theorem nan_const : Fl.isNaN 9221120237041090561 := by decide
set_option maxRecDepth 100000 in
set_option maxHeartbeats 1000000 in
theorem l3Nan_any (w : World) : Calls Try.prog 35 #[] w fun e w' => e = .returned (.float .f64 (Fl.nanAt w 0 0)) ∧ w.drew = w' := by
  have e := fun (t : TypeId) => Fl.run_float_nan (P := Try.prog) .quo (by simp) t _ _ zz_none
  go_enter Try.func35, Try.ntmps35
  go_wp2
  go_ret
  exact ⟨rfl, rfl⟩
set_option maxRecDepth 100000 in
set_option maxHeartbeats 1000000 in
theorem l3Inf_any (w : World) : Calls Try.prog 36 #[] w fun e w' => e = .returned (.float .f64 9218868437227405312) ∧ w = w' := by
  have e := fun (w : World) (t : TypeId) => run_float_arith (P := Try.prog) w .quo t .f64 _ _ _ oz_inf
  go_enter Try.func36, Try.ntmps36
  go_wp2
  go_ret
  exact ⟨rfl, rfl⟩
set_option maxRecDepth 100000 in
set_option maxHeartbeats 1000000 in
theorem l3Word_0 (w : World) : Calls Try.prog 23 #[.int .i64 0] w fun e w' => ∃ b : Nat, e = .returned (.float .f64 b) ∧ Fl.isNaN b ∧ Below w.heap.size w w' := by
  go_enter Try.func23, Try.ntmps23
  go_wp2_with fail
  refine (l3Nan_any _).mono ?_
  rintro e w1 ⟨rfl, rfl⟩
  have hn := (Fl.nanAt_nan w 0 0).1
  generalize Fl.nanAt w 0 0 = b at hn ⊢
  go_wp2
  go_ret
  exact ⟨b, rfl, hn, by repeat (first | exact Below.refl _ _ | refine Below.alloc ?_ (by first | (simp; done) | (simp; omega) | omega) _ | refine Below.drew ?_ | refine Bx.bel_drewN ?_ _ | refine Below.setCell ?_ (by first | (simp; done) | (simp; omega) | omega) _)⟩
set_option maxRecDepth 100000 in
set_option maxHeartbeats 1000000 in
theorem l3Word_1 (w : World) : Calls Try.prog 23 #[.int .i64 1] w fun e w' => e = .returned (.float .f64 9218868437227405312) ∧ Below w.heap.size w w' := by
  have q4 := Fl.run_neg_float (P := Try.prog)
  have v0 : Op.negFloat .f64 0 = 9223372036854775808 := by decide
  have v1 : Op.negFloat .f64 9218868437227405312 = 18442240474082181120 := by decide
  go_enter Try.func23, Try.ntmps23
  go_wp2_with ((go_at_call 36; refine (l3Inf_any _).mono ?_; rintro e w' ⟨rfl, rfl⟩))
  go_ret
  exact ⟨rfl, by repeat (first | exact Below.refl _ _ | refine Below.alloc ?_ (by first | (simp; done) | (simp; omega) | omega) _ | refine Below.drew ?_ | refine Bx.bel_drewN ?_ _ | refine Below.setCell ?_ (by first | (simp; done) | (simp; omega) | omega) _)⟩
set_option maxRecDepth 100000 in
set_option maxHeartbeats 1000000 in
theorem l3Word_2 (w : World) : Calls Try.prog 23 #[.int .i64 2] w fun e w' => e = .returned (.float .f64 18442240474082181120) ∧ Below w.heap.size w w' := by
  have q4 := Fl.run_neg_float (P := Try.prog)
  have v0 : Op.negFloat .f64 0 = 9223372036854775808 := by decide
  have v1 : Op.negFloat .f64 9218868437227405312 = 18442240474082181120 := by decide
  go_enter Try.func23, Try.ntmps23
  go_wp2_with ((go_at_call 36; refine (l3Inf_any _).mono ?_; rintro e w' ⟨rfl, rfl⟩))
  go_ret
  exact ⟨rfl, by repeat (first | exact Below.refl _ _ | refine Below.alloc ?_ (by first | (simp; done) | (simp; omega) | omega) _ | refine Below.drew ?_ | refine Bx.bel_drewN ?_ _ | refine Below.setCell ?_ (by first | (simp; done) | (simp; omega) | omega) _)⟩
set_option maxRecDepth 100000 in
set_option maxHeartbeats 1000000 in
theorem l3Word_3 (w : World) : Calls Try.prog 23 #[.int .i64 3] w fun e w' => e = .returned (.float .f64 9223372036854775808) ∧ Below w.heap.size w w' := by
  have q4 := Fl.run_neg_float (P := Try.prog)
  have v0 : Op.negFloat .f64 0 = 9223372036854775808 := by decide
  have v1 : Op.negFloat .f64 9218868437227405312 = 18442240474082181120 := by decide
  go_enter Try.func23, Try.ntmps23
  go_wp2_with ((go_at_call 36; refine (l3Inf_any _).mono ?_; rintro e w' ⟨rfl, rfl⟩))
  go_ret
  exact ⟨rfl, by repeat (first | exact Below.refl _ _ | refine Below.alloc ?_ (by first | (simp; done) | (simp; omega) | omega) _ | refine Below.drew ?_ | refine Bx.bel_drewN ?_ _ | refine Below.setCell ?_ (by first | (simp; done) | (simp; omega) | omega) _)⟩
/-- ten to a small power -/
def tn (j : Nat) : Nat := 10 ^ j
theorem tn_succ (j : Nat) : tn (j + 1) = tn j * 10 := Nat.pow_succ _ _
theorem tn_le {j : Nat} (h : j ≤ 6) : 1 ≤ tn j ∧ tn j ≤ 1000000 := by
  have h1 : 10 ^ j ≤ 10 ^ 6 := Nat.pow_le_pow_right (by omega) h
  have h2 : 0 < 10 ^ j := Nat.pow_pos (by omega)
  unfold tn; omega
set_option maxRecDepth 100000 in
set_option maxHeartbeats 1000000 in
theorem realArg_i_no (k n p : Int) (hok : DevP.ok k n p = false) (w : World) : Calls Try.prog 8 #[.agg #[.int .i64 k, .int .i64 n, .int .i64 p]] w fun e w' => e = .returned (.float .f64 0) ∧ Below w.heap.size w w' := by
  go_enter Try.func8, Try.ntmps8
  go_wp2_with fail
  refine (devOk_i_any k n p _).mono ?_
  rintro e w1 ⟨rfl, hb1⟩
  have b1 := (Box.new w #[.int .i64 k, .int .i64 n, .int .i64 p] 26).kept hb1
  have hB : Below w.heap.size w w1 := bel_step ((Below.refl _ _).alloc (Nat.le_refl _) _) hb1 (by simp)
  have c0 : w1.cell? ⟨w.heap.size, 0, none⟩ = some (.int .i64 k) := b1.cell 0
  have c1 : w1.cell? ⟨w.heap.size, 1, none⟩ = some (.int .i64 n) := b1.cell 1
  have c2 : w1.cell? ⟨w.heap.size, 2, none⟩ = some (.int .i64 p) := b1.cell 2
  clear hb1 b1
  go_wp2
  go_ret
  exact ⟨rfl, hB⟩
set_option maxRecDepth 100000 in
set_option maxHeartbeats 1000000 in
theorem realArg_i_other (k n p : Int) (hok : DevP.ok k n p = true) (h1 : ¬ k = 12) (h2 : ¬ k = 13) (w : World) : Calls Try.prog 8 #[.agg #[.int .i64 k, .int .i64 n, .int .i64 p]] w fun e w' => e = .returned (.float .f64 0) ∧ Below w.heap.size w w' := by
  have q1 : (k == 12) = false := by simpa using h1
  have q1' : (k != 12) = true := by simpa using h1
  have q2 : (k == 13) = false := by simpa using h2
  go_enter Try.func8, Try.ntmps8
  go_wp2_with fail
  refine (devOk_i_any k n p _).mono ?_
  rintro e w1 ⟨rfl, hb1⟩
  have b1 := (Box.new w #[.int .i64 k, .int .i64 n, .int .i64 p] 26).kept hb1
  have hB : Below w.heap.size w w1 := bel_step ((Below.refl _ _).alloc (Nat.le_refl _) _) hb1 (by simp)
  have c0 : w1.cell? ⟨w.heap.size, 0, none⟩ = some (.int .i64 k) := b1.cell 0
  have c1 : w1.cell? ⟨w.heap.size, 1, none⟩ = some (.int .i64 n) := b1.cell 1
  have c2 : w1.cell? ⟨w.heap.size, 2, none⟩ = some (.int .i64 p) := b1.cell 2
  clear hb1 b1
  go_wp2
  go_ret
  exact ⟨rfl, hB⟩
set_option maxRecDepth 100000 in
set_option maxHeartbeats 1000000 in
theorem realArg_i_dec (n : Int) (P r : Nat) (hok : DevP.ok 12 n (P : Int) = true) (hP : P ≤ 6) (hdiv : floatBits .quo .f64 (floatOfInt .f64 n) (floatOfInt .f64 (tn P : Int)) = some r) (w : World) : Calls Try.prog 8 #[.agg #[.int .i64 12, .int .i64 n, .int .i64 (P : Int)]] w fun e w' => e = .returned (.float .f64 r) ∧ Below w.heap.size w w' := by
  have q := fun (w : World) (t : TypeId) => run_float_arith (P := Try.prog) w .quo t .f64 _ _ _ hdiv
  clear hdiv
  go_enter Try.func8, Try.ntmps8
  go_wp2_with fail
  refine (devOk_i_any 12 n (P : Int) _).mono ?_
  rintro e w1 ⟨rfl, hb1⟩
  have b1 := (Box.new w #[.int .i64 12, .int .i64 n, .int .i64 (P : Int)] 26).kept hb1
  have hB : Below w.heap.size w w1 := bel_step ((Below.refl _ _).alloc (Nat.le_refl _) _) hb1 (by simp)
  have c0 : w1.cell? ⟨w.heap.size, 0, none⟩ = some (.int .i64 12) := b1.cell 0
  have c1 : w1.cell? ⟨w.heap.size, 1, none⟩ = some (.int .i64 n) := b1.cell 1
  have c2 : w1.cell? ⟨w.heap.size, 2, none⟩ = some (.int .i64 (P : Int)) := b1.cell 2
  clear hb1 b1
  go_wp2_with fail
  go_loop [3, 14] (fun t i => ∃ j : Nat, j ≤ P ∧ i = .int .i64 j ∧ t = .int .i64 (tn j : Int)) (fun _ i => P - (intOf i).toNat)
  case atStart => exact ⟨0, by omega, rfl, rfl⟩
  case round =>
    obtain ⟨j, hj, rfl, rfl⟩ := hrel
    by_cases hlt : j < P
    · have h1 := tn_le (j := j) (by omega)
      have h2 : (tn (j + 1) : Int) = (tn j : Int) * 10 := by rw [tn_succ]; omega
      have H2 := Lib.hid h2
      clear h2
      obtain ⟨u, hu⟩ : ∃ u, u = tn j := ⟨_, rfl⟩
      have d0 : (tn j : Int) ≤ 1000000 := by omega
      have d1 : (0 : Int) ≤ (tn j : Int) := by omega
      have d2 : (j : Int) < (P : Int) := by omega
      clear h1 hu
      go_wp2
      go_round
      case rel => exact ⟨j + 1, by omega, by go_num, by rw [H2.out]⟩
      case measure => simp [intOf]; omega
    · obtain rfl : j = P := by omega
      have d2 : decide ((j : Int) < (j : Int)) = false := by simp
      go_wp2
      go_ret
      exact ⟨rfl, hB⟩
set_option maxRecDepth 100000 in
set_option maxHeartbeats 1000000 in
theorem realArg_i_word0 (w : World) : Calls Try.prog 8 #[.agg #[.int .i64 13, .int .i64 0, .int .i64 0]] w fun e w' => e = .returned (.float .f64 9221120237041090561) ∧ Below w.heap.size w w' := by
  have hok : DevP.ok 13 0 0 = true := by decide
  have ix : ∀ w, (Instr.index 41 (.agg #[.float .f64 9221120237041090561, .float .f64 9218868437227405312, .float .f64 18442240474082181120, .float .f64 9223372036854775808]) (.int .i64 0)).run Try.prog w = .ok (.float .f64 9221120237041090561) w := fun _ => by kernel_rfl
  go_enter Try.func8, Try.ntmps8
  go_wp2_with fail
  refine (devOk_i_any 13 0 0 _).mono ?_
  rintro e w1 ⟨rfl, hb1⟩
  have b1 := (Box.new w #[.int .i64 13, .int .i64 0, .int .i64 0] 26).kept hb1
  have hB : Below w.heap.size w w1 := bel_step ((Below.refl _ _).alloc (Nat.le_refl _) _) hb1 (by simp)
  have c0 : w1.cell? ⟨w.heap.size, 0, none⟩ = some (.int .i64 13) := b1.cell 0
  have c1 : w1.cell? ⟨w.heap.size, 1, none⟩ = some (.int .i64 0) := b1.cell 1
  have c2 : w1.cell? ⟨w.heap.size, 2, none⟩ = some (.int .i64 0) := b1.cell 2
  clear hb1 b1
  go_wp2
  go_quiet ((first | (go_at_call 24; exact Calls.quiet_of_same ((mathNaN _).mono fun _ _ h => ⟨h.1, h.2.symm⟩)) | (go_at_call 25; exact Calls.quiet_of_same ((mathInf_1 _).mono fun _ _ h => ⟨h.1, h.2.symm⟩)) | (go_at_call 25; exact Calls.quiet_of_same ((mathInf_m1 _).mono fun _ _ h => ⟨h.1, h.2.symm⟩)) | (go_at_call 26; exact Calls.quiet_of_same ((mathCopysign _).mono fun _ _ h => ⟨h.1, h.2.symm⟩))))
  go_wp2
  go_ret
  exact ⟨rfl, Bx.bel_drewN hB _⟩
set_option maxRecDepth 100000 in
set_option maxHeartbeats 1000000 in
theorem realArg_i_word1 (w : World) : Calls Try.prog 8 #[.agg #[.int .i64 13, .int .i64 1, .int .i64 0]] w fun e w' => e = .returned (.float .f64 9218868437227405312) ∧ Below w.heap.size w w' := by
  have hok : DevP.ok 13 1 0 = true := by decide
  have ix : ∀ w, (Instr.index 41 (.agg #[.float .f64 9221120237041090561, .float .f64 9218868437227405312, .float .f64 18442240474082181120, .float .f64 9223372036854775808]) (.int .i64 1)).run Try.prog w = .ok (.float .f64 9218868437227405312) w := fun _ => by kernel_rfl
  go_enter Try.func8, Try.ntmps8
  go_wp2_with fail
  refine (devOk_i_any 13 1 0 _).mono ?_
  rintro e w1 ⟨rfl, hb1⟩
  have b1 := (Box.new w #[.int .i64 13, .int .i64 1, .int .i64 0] 26).kept hb1
  have hB : Below w.heap.size w w1 := bel_step ((Below.refl _ _).alloc (Nat.le_refl _) _) hb1 (by simp)
  have c0 : w1.cell? ⟨w.heap.size, 0, none⟩ = some (.int .i64 13) := b1.cell 0
  have c1 : w1.cell? ⟨w.heap.size, 1, none⟩ = some (.int .i64 1) := b1.cell 1
  have c2 : w1.cell? ⟨w.heap.size, 2, none⟩ = some (.int .i64 0) := b1.cell 2
  clear hb1 b1
  go_wp2
  go_quiet ((first | (go_at_call 24; exact Calls.quiet_of_same ((mathNaN _).mono fun _ _ h => ⟨h.1, h.2.symm⟩)) | (go_at_call 25; exact Calls.quiet_of_same ((mathInf_1 _).mono fun _ _ h => ⟨h.1, h.2.symm⟩)) | (go_at_call 25; exact Calls.quiet_of_same ((mathInf_m1 _).mono fun _ _ h => ⟨h.1, h.2.symm⟩)) | (go_at_call 26; exact Calls.quiet_of_same ((mathCopysign _).mono fun _ _ h => ⟨h.1, h.2.symm⟩))))
  go_wp2
  go_ret
  exact ⟨rfl, Bx.bel_drewN hB _⟩
set_option maxRecDepth 100000 in
set_option maxHeartbeats 1000000 in
theorem realArg_i_word2 (w : World) : Calls Try.prog 8 #[.agg #[.int .i64 13, .int .i64 2, .int .i64 0]] w fun e w' => e = .returned (.float .f64 18442240474082181120) ∧ Below w.heap.size w w' := by
  have hok : DevP.ok 13 2 0 = true := by decide
  have ix : ∀ w, (Instr.index 41 (.agg #[.float .f64 9221120237041090561, .float .f64 9218868437227405312, .float .f64 18442240474082181120, .float .f64 9223372036854775808]) (.int .i64 2)).run Try.prog w = .ok (.float .f64 18442240474082181120) w := fun _ => by kernel_rfl
  go_enter Try.func8, Try.ntmps8
  go_wp2_with fail
  refine (devOk_i_any 13 2 0 _).mono ?_
  rintro e w1 ⟨rfl, hb1⟩
  have b1 := (Box.new w #[.int .i64 13, .int .i64 2, .int .i64 0] 26).kept hb1
  have hB : Below w.heap.size w w1 := bel_step ((Below.refl _ _).alloc (Nat.le_refl _) _) hb1 (by simp)
  have c0 : w1.cell? ⟨w.heap.size, 0, none⟩ = some (.int .i64 13) := b1.cell 0
  have c1 : w1.cell? ⟨w.heap.size, 1, none⟩ = some (.int .i64 2) := b1.cell 1
  have c2 : w1.cell? ⟨w.heap.size, 2, none⟩ = some (.int .i64 0) := b1.cell 2
  clear hb1 b1
  go_wp2
  go_quiet ((first | (go_at_call 24; exact Calls.quiet_of_same ((mathNaN _).mono fun _ _ h => ⟨h.1, h.2.symm⟩)) | (go_at_call 25; exact Calls.quiet_of_same ((mathInf_1 _).mono fun _ _ h => ⟨h.1, h.2.symm⟩)) | (go_at_call 25; exact Calls.quiet_of_same ((mathInf_m1 _).mono fun _ _ h => ⟨h.1, h.2.symm⟩)) | (go_at_call 26; exact Calls.quiet_of_same ((mathCopysign _).mono fun _ _ h => ⟨h.1, h.2.symm⟩))))
  go_wp2
  go_ret
  exact ⟨rfl, Bx.bel_drewN hB _⟩
set_option maxRecDepth 100000 in
set_option maxHeartbeats 1000000 in
theorem realArg_i_word3 (w : World) : Calls Try.prog 8 #[.agg #[.int .i64 13, .int .i64 3, .int .i64 0]] w fun e w' => e = .returned (.float .f64 9223372036854775808) ∧ Below w.heap.size w w' := by
  have hok : DevP.ok 13 3 0 = true := by decide
  have ix : ∀ w, (Instr.index 41 (.agg #[.float .f64 9221120237041090561, .float .f64 9218868437227405312, .float .f64 18442240474082181120, .float .f64 9223372036854775808]) (.int .i64 3)).run Try.prog w = .ok (.float .f64 9223372036854775808) w := fun _ => by kernel_rfl
  go_enter Try.func8, Try.ntmps8
  go_wp2_with fail
  refine (devOk_i_any 13 3 0 _).mono ?_
  rintro e w1 ⟨rfl, hb1⟩
  have b1 := (Box.new w #[.int .i64 13, .int .i64 3, .int .i64 0] 26).kept hb1
  have hB : Below w.heap.size w w1 := bel_step ((Below.refl _ _).alloc (Nat.le_refl _) _) hb1 (by simp)
  have c0 : w1.cell? ⟨w.heap.size, 0, none⟩ = some (.int .i64 13) := b1.cell 0
  have c1 : w1.cell? ⟨w.heap.size, 1, none⟩ = some (.int .i64 3) := b1.cell 1
  have c2 : w1.cell? ⟨w.heap.size, 2, none⟩ = some (.int .i64 0) := b1.cell 2
  clear hb1 b1
  go_wp2
  go_quiet ((first | (go_at_call 24; exact Calls.quiet_of_same ((mathNaN _).mono fun _ _ h => ⟨h.1, h.2.symm⟩)) | (go_at_call 25; exact Calls.quiet_of_same ((mathInf_1 _).mono fun _ _ h => ⟨h.1, h.2.symm⟩)) | (go_at_call 25; exact Calls.quiet_of_same ((mathInf_m1 _).mono fun _ _ h => ⟨h.1, h.2.symm⟩)) | (go_at_call 26; exact Calls.quiet_of_same ((mathCopysign _).mono fun _ _ h => ⟨h.1, h.2.symm⟩))))
  go_wp2
  go_ret
  exact ⟨rfl, Bx.bel_drewN hB _⟩
set_option maxRecDepth 100000 in
set_option maxHeartbeats 1000000 in
theorem realArg_s_no (k n p : Int) (hok : DevP.ok k n p = false) (w : World) : Calls Try.prog 6 #[.agg #[.int .i64 k, .int .i64 n, .int .i64 p]] w fun e w' => e = .returned (.float .f64 0) ∧ Below w.heap.size w w' := by
  go_enter Try.func6, Try.ntmps6
  go_wp2_with fail
  refine (devOk_s_any k n p _).mono ?_
  rintro e w1 ⟨rfl, hb1⟩
  have b1 := (Box.new w #[.int .i64 k, .int .i64 n, .int .i64 p] 26).kept hb1
  have hB : Below w.heap.size w w1 := bel_step ((Below.refl _ _).alloc (Nat.le_refl _) _) hb1 (by simp)
  have c0 : w1.cell? ⟨w.heap.size, 0, none⟩ = some (.int .i64 k) := b1.cell 0
  have c1 : w1.cell? ⟨w.heap.size, 1, none⟩ = some (.int .i64 n) := b1.cell 1
  have c2 : w1.cell? ⟨w.heap.size, 2, none⟩ = some (.int .i64 p) := b1.cell 2
  clear hb1 b1
  go_wp2
  go_ret
  exact ⟨rfl, hB⟩
set_option maxRecDepth 100000 in
set_option maxHeartbeats 1000000 in
theorem realArg_s_other (k n p : Int) (hok : DevP.ok k n p = true) (h1 : ¬ k = 12) (h2 : ¬ k = 13) (w : World) : Calls Try.prog 6 #[.agg #[.int .i64 k, .int .i64 n, .int .i64 p]] w fun e w' => e = .returned (.float .f64 0) ∧ Below w.heap.size w w' := by
  have q1 : (k == 12) = false := by simpa using h1
  have q1' : (k != 12) = true := by simpa using h1
  have q2 : (k == 13) = false := by simpa using h2
  go_enter Try.func6, Try.ntmps6
  go_wp2_with fail
  refine (devOk_s_any k n p _).mono ?_
  rintro e w1 ⟨rfl, hb1⟩
  have b1 := (Box.new w #[.int .i64 k, .int .i64 n, .int .i64 p] 26).kept hb1
  have hB : Below w.heap.size w w1 := bel_step ((Below.refl _ _).alloc (Nat.le_refl _) _) hb1 (by simp)
  have c0 : w1.cell? ⟨w.heap.size, 0, none⟩ = some (.int .i64 k) := b1.cell 0
  have c1 : w1.cell? ⟨w.heap.size, 1, none⟩ = some (.int .i64 n) := b1.cell 1
  have c2 : w1.cell? ⟨w.heap.size, 2, none⟩ = some (.int .i64 p) := b1.cell 2
  clear hb1 b1
  go_wp2
  go_ret
  exact ⟨rfl, hB⟩
set_option maxRecDepth 100000 in
set_option maxHeartbeats 1000000 in
theorem realArg_s_dec (n : Int) (P r : Nat) (hok : DevP.ok 12 n (P : Int) = true) (hP : P ≤ 6) (hdiv : floatBits .quo .f64 (floatOfInt .f64 n) (floatOfInt .f64 (tn P : Int)) = some r) (w : World) : Calls Try.prog 6 #[.agg #[.int .i64 12, .int .i64 n, .int .i64 (P : Int)]] w fun e w' => e = .returned (.float .f64 r) ∧ Below w.heap.size w w' := by
  have q := fun (w : World) (t : TypeId) => run_float_arith (P := Try.prog) w .quo t .f64 _ _ _ hdiv
  clear hdiv
  go_enter Try.func6, Try.ntmps6
  go_wp2_with fail
  refine (devOk_s_any 12 n (P : Int) _).mono ?_
  rintro e w1 ⟨rfl, hb1⟩
  have b1 := (Box.new w #[.int .i64 12, .int .i64 n, .int .i64 (P : Int)] 26).kept hb1
  have hB : Below w.heap.size w w1 := bel_step ((Below.refl _ _).alloc (Nat.le_refl _) _) hb1 (by simp)
  have c0 : w1.cell? ⟨w.heap.size, 0, none⟩ = some (.int .i64 12) := b1.cell 0
  have c1 : w1.cell? ⟨w.heap.size, 1, none⟩ = some (.int .i64 n) := b1.cell 1
  have c2 : w1.cell? ⟨w.heap.size, 2, none⟩ = some (.int .i64 (P : Int)) := b1.cell 2
  clear hb1 b1
  go_wp2_with fail
  go_loop [3, 4] (fun t i => ∃ j : Nat, j ≤ P ∧ i = .int .i64 j ∧ t = .int .i64 (tn j : Int)) (fun _ i => P - (intOf i).toNat)
  case atStart => exact ⟨0, by omega, rfl, rfl⟩
  case round =>
    obtain ⟨j, hj, rfl, rfl⟩ := hrel
    by_cases hlt : j < P
    · have h1 := tn_le (j := j) (by omega)
      have h2 : (tn (j + 1) : Int) = (tn j : Int) * 10 := by rw [tn_succ]; omega
      have H2 := Lib.hid h2
      clear h2
      obtain ⟨u, hu⟩ : ∃ u, u = tn j := ⟨_, rfl⟩
      have d0 : (tn j : Int) ≤ 1000000 := by omega
      have d1 : (0 : Int) ≤ (tn j : Int) := by omega
      have d2 : (j : Int) < (P : Int) := by omega
      clear h1 hu
      go_wp2
      go_round
      case rel => exact ⟨j + 1, by omega, by go_num, by rw [H2.out]⟩
      case measure => simp [intOf]; omega
    · obtain rfl : j = P := by omega
      have d2 : decide ((j : Int) < (j : Int)) = false := by simp
      go_wp2
      go_ret
      exact ⟨rfl, hB⟩
set_option maxRecDepth 100000 in
set_option maxHeartbeats 1000000 in
theorem realArg_s_word0 (w : World) : Calls Try.prog 6 #[.agg #[.int .i64 13, .int .i64 0, .int .i64 0]] w fun e w' => ∃ b : Nat, e = .returned (.float .f64 b) ∧ Fl.isNaN b ∧ Below w.heap.size w w' := by
  have hok : DevP.ok 13 0 0 = true := by decide
  go_enter Try.func6, Try.ntmps6
  go_wp2_with fail
  refine (devOk_s_any 13 0 0 _).mono ?_
  rintro e w1 ⟨rfl, hb1⟩
  have b1 := (Box.new w #[.int .i64 13, .int .i64 0, .int .i64 0] 26).kept hb1
  have hB : Below w.heap.size w w1 := bel_step ((Below.refl _ _).alloc (Nat.le_refl _) _) hb1 (by simp)
  have c0 : w1.cell? ⟨w.heap.size, 0, none⟩ = some (.int .i64 13) := b1.cell 0
  have c1 : w1.cell? ⟨w.heap.size, 1, none⟩ = some (.int .i64 0) := b1.cell 1
  have c2 : w1.cell? ⟨w.heap.size, 2, none⟩ = some (.int .i64 0) := b1.cell 2
  clear hb1 b1
  go_wp2_with fail
  refine (l3Word_0 _).mono ?_
  rintro e w2 ⟨b, rfl, hn, hb2⟩
  have hB2 := bel_step hB hb2 hB.size
  clear hb2 hB c0 c1 c2
  go_wp2
  go_ret
  exact ⟨b, rfl, hn, hB2⟩
set_option maxRecDepth 100000 in
set_option maxHeartbeats 1000000 in
theorem realArg_s_word1 (w : World) : Calls Try.prog 6 #[.agg #[.int .i64 13, .int .i64 1, .int .i64 0]] w fun e w' => e = .returned (.float .f64 9218868437227405312) ∧ Below w.heap.size w w' := by
  have hok : DevP.ok 13 1 0 = true := by decide
  go_enter Try.func6, Try.ntmps6
  go_wp2_with fail
  refine (devOk_s_any 13 1 0 _).mono ?_
  rintro e w1 ⟨rfl, hb1⟩
  have b1 := (Box.new w #[.int .i64 13, .int .i64 1, .int .i64 0] 26).kept hb1
  have hB : Below w.heap.size w w1 := bel_step ((Below.refl _ _).alloc (Nat.le_refl _) _) hb1 (by simp)
  have c0 : w1.cell? ⟨w.heap.size, 0, none⟩ = some (.int .i64 13) := b1.cell 0
  have c1 : w1.cell? ⟨w.heap.size, 1, none⟩ = some (.int .i64 1) := b1.cell 1
  have c2 : w1.cell? ⟨w.heap.size, 2, none⟩ = some (.int .i64 0) := b1.cell 2
  clear hb1 b1
  go_wp2_with fail
  refine (l3Word_1 _).mono ?_
  rintro e w2 ⟨rfl, hb2⟩
  have hB2 := bel_step hB hb2 hB.size
  clear hb2 hB c0 c1 c2
  go_wp2
  go_ret
  exact ⟨rfl, hB2⟩
set_option maxRecDepth 100000 in
set_option maxHeartbeats 1000000 in
theorem realArg_s_word2 (w : World) : Calls Try.prog 6 #[.agg #[.int .i64 13, .int .i64 2, .int .i64 0]] w fun e w' => e = .returned (.float .f64 18442240474082181120) ∧ Below w.heap.size w w' := by
  have hok : DevP.ok 13 2 0 = true := by decide
  go_enter Try.func6, Try.ntmps6
  go_wp2_with fail
  refine (devOk_s_any 13 2 0 _).mono ?_
  rintro e w1 ⟨rfl, hb1⟩
  have b1 := (Box.new w #[.int .i64 13, .int .i64 2, .int .i64 0] 26).kept hb1
  have hB : Below w.heap.size w w1 := bel_step ((Below.refl _ _).alloc (Nat.le_refl _) _) hb1 (by simp)
  have c0 : w1.cell? ⟨w.heap.size, 0, none⟩ = some (.int .i64 13) := b1.cell 0
  have c1 : w1.cell? ⟨w.heap.size, 1, none⟩ = some (.int .i64 2) := b1.cell 1
  have c2 : w1.cell? ⟨w.heap.size, 2, none⟩ = some (.int .i64 0) := b1.cell 2
  clear hb1 b1
  go_wp2_with fail
  refine (l3Word_2 _).mono ?_
  rintro e w2 ⟨rfl, hb2⟩
  have hB2 := bel_step hB hb2 hB.size
  clear hb2 hB c0 c1 c2
  go_wp2
  go_ret
  exact ⟨rfl, hB2⟩
set_option maxRecDepth 100000 in
set_option maxHeartbeats 1000000 in
theorem realArg_s_word3 (w : World) : Calls Try.prog 6 #[.agg #[.int .i64 13, .int .i64 3, .int .i64 0]] w fun e w' => e = .returned (.float .f64 9223372036854775808) ∧ Below w.heap.size w w' := by
  have hok : DevP.ok 13 3 0 = true := by decide
  go_enter Try.func6, Try.ntmps6
  go_wp2_with fail
  refine (devOk_s_any 13 3 0 _).mono ?_
  rintro e w1 ⟨rfl, hb1⟩
  have b1 := (Box.new w #[.int .i64 13, .int .i64 3, .int .i64 0] 26).kept hb1
  have hB : Below w.heap.size w w1 := bel_step ((Below.refl _ _).alloc (Nat.le_refl _) _) hb1 (by simp)
  have c0 : w1.cell? ⟨w.heap.size, 0, none⟩ = some (.int .i64 13) := b1.cell 0
  have c1 : w1.cell? ⟨w.heap.size, 1, none⟩ = some (.int .i64 3) := b1.cell 1
  have c2 : w1.cell? ⟨w.heap.size, 2, none⟩ = some (.int .i64 0) := b1.cell 2
  clear hb1 b1
  go_wp2_with fail
  refine (l3Word_3 _).mono ?_
  rintro e w2 ⟨rfl, hb2⟩
  have hB2 := bel_step hB hb2 hB.size
  clear hb2 hB c0 c1 c2
  go_wp2
  go_ret
  exact ⟨rfl, hB2⟩
end Go.Proofs.Ytikcabmohlaanaa
