/- The walks of FnExactRealWhole, FnExactWholeCalc: each law returns true and changes nothing that was there. -/
import Derived.Test.YtmbmdemoghdggaaRows
import Derived.Test.YtmbmdemoghdggaaFlo5
import Derived.WalkKit
import Derived.WalkSpells
import Derived.WalkLawsBesides
import Derived.OpenShut
namespace Go.Proofs.Ytmbmdemoghdggaa
open Go.RowKit
set_option linter.unusedVariables false

theorem archTrunc (args : Array Value) (w : World) : (callFunc 47 args).run Try.prog w = ((Extern.MathFloor.toIntegral "math.archTrunc" .zero args).run Try.prog w).andThen fun v w' => .ok (.value v) w' :=
  run_callFunc_extern Try.func47 (by kernel_rfl) (by kernel_rfl) (by kernel_rfl) (by kernel_rfl) args w
set_option maxHeartbeats 400000 in
theorem FnExactRealWhole_nan (a0 : Nat) (h : Fl.isNaN a0) (w : World) : Calls Try.prog 10 #[.float .f64 a0] w fun e w' => e = .returned (.bool true) ∧ Below w.heap.size w w' := by
  obtain ⟨b, w1, hb, hw1, hrun⟩ := Fl.trunc_ext_nan (P := Try.prog) h w
  have e0 : (callFunc 47 #[.float .f64 a0]).run Try.prog w = .ok (.value (.float .f64 b)) w1 := by rw [archTrunc, hrun]; rfl
  have e1 := Fl.ord_nan_l h
  have e2 := Fl.ord_nan_l hb
  have hbel : Below w.heap.size w w1 := by rcases hw1 with rfl | rfl; exact Below.refl _ _; exact (Below.refl _ _).drew
  clear h hb hw1 hrun
  go_enter Try.func10, Try.ntmps10
  go_wp2
  go_ret
  exact ⟨rfl, hbel⟩
set_option maxHeartbeats 400000 in
theorem FnExactRealWhole_low (a0 : Nat) (h : ¬ Fl.isNaN a0) (hl : Fl.low16 a0 = false) (w : World) : Calls Try.prog 10 #[.float .f64 a0] w fun e w' => e = .returned (.bool true) ∧ Below w.heap.size w w' := by
  have e0 : ∀ w, (callFunc 47 #[.float .f64 a0]).run Try.prog w = .ok (.value (.float .f64 (Fl.truncBits a0))) w := fun w => by rw [archTrunc, Fl.trunc_ext h]; rfl
  have e1 := (Fl.spec_low h).trans hl
  have e3 := (Fl.impl_low h).trans hl
  clear h hl
  generalize Fl.truncBits a0 = t at *
  go_enter Try.func10, Try.ntmps10
  go_wp2
  go_ret
  exact ⟨rfl, Below.refl _ _⟩
set_option maxHeartbeats 400000 in
theorem FnExactRealWhole_high (a0 : Nat) (h : ¬ Fl.isNaN a0) (hl : Fl.low16 a0 = true) (hh : Fl.high16 a0 = false) (w : World) : Calls Try.prog 10 #[.float .f64 a0] w fun e w' => e = .returned (.bool true) ∧ Below w.heap.size w w' := by
  have e0 : ∀ w, (callFunc 47 #[.float .f64 a0]).run Try.prog w = .ok (.value (.float .f64 (Fl.truncBits a0))) w := fun w => by rw [archTrunc, Fl.trunc_ext h]; rfl
  have e1 := (Fl.spec_low h).trans hl
  have e3 := (Fl.impl_low h).trans hl
  have e2 := (Fl.spec_high h).trans hh
  have e4 := (Fl.impl_high h).trans hh
  clear hh
  clear h hl
  generalize Fl.truncBits a0 = t at *
  go_enter Try.func10, Try.ntmps10
  go_wp2
  go_ret
  exact ⟨rfl, Below.refl _ _⟩
set_option maxHeartbeats 400000 in
theorem FnExactRealWhole_in (a0 : Nat) (h : ¬ Fl.isNaN a0) (hl : Fl.low16 a0 = true) (hh : Fl.high16 a0 = true) (w : World) : Calls Try.prog 10 #[.float .f64 a0] w fun e w' => e = .returned (.bool true) ∧ Below w.heap.size w w' := by
  have e0 : ∀ w, (callFunc 47 #[.float .f64 a0]).run Try.prog w = .ok (.value (.float .f64 (Fl.truncBits a0))) w := fun w => by rw [archTrunc, Fl.trunc_ext h]; rfl
  have e1 := (Fl.spec_low h).trans hl
  have e3 := (Fl.impl_low h).trans hl
  have e2 := (Fl.spec_high h).trans hh
  have e4 := (Fl.impl_high h).trans hh
  obtain ⟨hf, hc1, hc2⟩ := Fl.in16_fin h hl hh
  have c1 := Fl.conv_i64 (Fl.toInt_fin hf) (by omega) (by omega)
  have c2 := Fl.conv_i16 (Fl.toInt_fin (Fl.trunc_fin hf).rung_.1) (by rw [Fl.cutI_trunc hf]; exact hc1) (by rw [Fl.cutI_trunc hf]; exact hc2)
  rw [Fl.cutI_trunc hf] at c2
  have r1 := fun w => run_convert_float_int (P := Try.prog) w 26 3 .f64 .i64 _ _ (by kernel_rfl) Try.underlying3 c1
  have r2 := fun w => run_convert_float_int (P := Try.prog) w 26 28 .f64 .i16 _ _ (by kernel_rfl) Try.underlying28 c2
  have hw : IntKind.i16.wrap (Fl.cutI a0) = Fl.cutI a0 := by rw [Fl.wrap_i16]; omega
  clear h hl hh hf c1 c2
  generalize Fl.truncBits a0 = t at *
  generalize Fl.cutI a0 = c at *
  go_enter Try.func10, Try.ntmps10
  go_wp2
  go_ret
  exact ⟨rfl, Below.refl _ _⟩
theorem FnExactRealWhole_walk (a0 : Nat) (w0 : (Lit.float .f64 a0).wf = true) (w : World) : Calls Try.prog 10 #[.float .f64 a0] w fun e w' => e = .returned (.bool true) ∧ Below w.heap.size w w' := by
  by_cases h : Fl.isNaN a0
  · exact FnExactRealWhole_nan a0 h w
  cases hl : Fl.low16 a0
  · exact FnExactRealWhole_low a0 h hl w
  cases hh : Fl.high16 a0
  · exact FnExactRealWhole_high a0 h hl hh w
  · exact FnExactRealWhole_in a0 h hl hh w

set_option maxHeartbeats 400000 in
theorem l3Wrap_any (n : Int) (h : -1099511627776 ≤ n ∧ n ≤ 1099511627776) (w : World) : Calls Try.prog 39 #[.int .i64 n] w fun e w' => e = .returned (.int .i16 (IntKind.i16.wrap n)) ∧ w = w' := by
  obtain ⟨h1, h2⟩ := h
  obtain ⟨t1, t2⟩ := Fl.tmod_bd n
  have q1 := Fl.wrap16_hi n
  have q2 := Fl.wrap16_lo n
  have q3 := Fl.wrap16_mid n
  by_cases a : n.tmod 65536 < -32768
  · have b : ¬ 32767 < n.tmod 65536 + 65536 := by omega
    · go_enter Try.func39, Try.ntmps39
      go_wp2
      go_ret
      exact ⟨rfl, rfl⟩
  · by_cases b : 32767 < n.tmod 65536
    · go_enter Try.func39, Try.ntmps39
      go_wp2
      go_ret
      exact ⟨rfl, rfl⟩
    · go_enter Try.func39, Try.ntmps39
      go_wp2
      go_ret
      exact ⟨rfl, rfl⟩
end Go.Proofs.Ytmbmdemoghdggaa
