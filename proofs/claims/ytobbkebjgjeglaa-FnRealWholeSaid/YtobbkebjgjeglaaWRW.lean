/- The walk of FnRealWhole. -/
import Derived.Test.YtobbkebjgjeglaaRows
import Derived.Test.YtobbkebjgjeglaaWReal
import Derived.Test.YtobbkebjgjeglaaFlo6
import Derived.Test.YtobbkebjgjeglaaBox
import Derived.WalkKit
import Derived.WalkSpells
import Derived.WalkLawsBesides
import Derived.OpenShut
import Derived.Lib.Hide
namespace Go.Proofs.Ytobbkebjgjeglaa
open Go.RowKit Rdr
set_option linter.unusedVariables false

theorem IsCode.below {w w' : World} {a : Option Addr} {n c : Nat} (h : IsCode w a n c) (hb : Below w.heap.size w w') : IsCode w' a n c := by
  rcases h with h | ⟨b, off, rfl, hc, hbl, hcell⟩
  · exact .inl h
  · refine .inr ⟨b, off, rfl, hc, Nat.lt_of_lt_of_le hbl hb.size, fun i hi => ?_⟩
    obtain ⟨u, hu, h1⟩ := hcell i hi
    exact ⟨u, hu, (hb.cell (p := ⟨b, off + i, none⟩) hbl).trans h1⟩
theorem archTrunc (args : Array Value) (w : World) : (callFunc 14 args).run Try.prog w = ((Extern.MathFloor.toIntegral "math.archTrunc" .zero args).run Try.prog w).andThen fun v w' => .ok (.value v) w' :=
  run_callFunc_extern Try.func14 (by kernel_rfl) (by kernel_rfl) (by kernel_rfl) (by kernel_rfl) args w
set_option maxRecDepth 100000 in
set_option maxHeartbeats 400000 in
theorem rw_nan (a0 : Nat) (h : Fl.isNaN a0) (w : World) : Calls Try.prog 5 #[.float .f64 a0] w fun e w' => e = .returned (.tuple #[.int .i16 0, .bool false]) ∧ Below w.heap.size w w' := by
  obtain ⟨b, w1, hb, hw1, hrun⟩ := Fl.trunc_ext_nan (P := Try.prog) h w
  have e0 : (callFunc 14 #[.float .f64 a0]).run Try.prog w = .ok (.value (.float .f64 b)) w1 := by rw [archTrunc, hrun]; rfl
  have e2 := Fl.ord_nan_l hb
  have hbel : Below w.heap.size w w1 := by rcases hw1 with rfl | rfl; exact Below.refl _ _; exact (Below.refl _ _).drew
  clear h hb hw1 hrun
  go_enter Try.func5, Try.ntmps5
  go_wp2
  go_ret2
  exact ⟨rfl, hbel⟩
set_option maxRecDepth 100000 in
set_option maxHeartbeats 400000 in
theorem rw_out (a0 : Nat) (h : ¬ Fl.isNaN a0) (ho : Fl.low16 a0 = false ∨ Fl.high16 a0 = false) (w : World) : Calls Try.prog 5 #[.float .f64 a0] w fun e w' => e = .returned (.tuple #[.int .i16 0, .bool false]) ∧ Below w.heap.size w w' := by
  have e0 : ∀ w, (callFunc 14 #[.float .f64 a0]).run Try.prog w = .ok (.value (.float .f64 (Fl.truncBits a0))) w := fun w => by rw [archTrunc, Fl.trunc_ext h]; rfl
  cases hl : Fl.low16 a0 with
  | false =>
    have e3 := (Fl.impl_low h).trans hl
    clear h hl ho
    generalize Fl.truncBits a0 = t at *
    go_enter Try.func5, Try.ntmps5
    go_wp2
    go_ret2
    exact ⟨rfl, Below.refl _ _⟩
  | true =>
    have hh : Fl.high16 a0 = false := by rcases ho with h | h; rw [hl] at h; cases h; exact h
    have e3 := (Fl.impl_low h).trans hl
    have e4 := (Fl.impl_high h).trans hh
    clear h hl hh ho
    generalize Fl.truncBits a0 = t at *
    go_enter Try.func5, Try.ntmps5
    go_wp2
    go_ret2
    exact ⟨rfl, Below.refl _ _⟩
set_option maxRecDepth 100000 in
set_option maxHeartbeats 400000 in
theorem rw_in (a0 : Nat) (h : ¬ Fl.isNaN a0) (hl : Fl.low16 a0 = true) (hh : Fl.high16 a0 = true) (w : World) : Calls Try.prog 5 #[.float .f64 a0] w fun e w' => e = .returned (.tuple #[.int .i16 (Fl.cutI a0), .bool true]) ∧ Below w.heap.size w w' := by
  have e0 : ∀ w, (callFunc 14 #[.float .f64 a0]).run Try.prog w = .ok (.value (.float .f64 (Fl.truncBits a0))) w := fun w => by rw [archTrunc, Fl.trunc_ext h]; rfl
  have e3 := (Fl.impl_low h).trans hl
  have e4 := (Fl.impl_high h).trans hh
  obtain ⟨hf, hc1, hc2⟩ := Fl.in16_fin h hl hh
  have c2 := Fl.conv_i16 (Fl.toInt_fin (Fl.trunc_fin hf).rung_.1) (by rw [Fl.cutI_trunc hf]; exact hc1) (by rw [Fl.cutI_trunc hf]; exact hc2)
  rw [Fl.cutI_trunc hf] at c2
  have r2 := fun w => run_convert_float_int (P := Try.prog) w 28 23 .f64 .i16 _ _ (by kernel_rfl) Try.underlying23 c2
  clear h hl hh hf c2
  generalize Fl.truncBits a0 = t at *
  generalize Fl.cutI a0 = c at *
  go_enter Try.func5, Try.ntmps5
  go_wp2
  go_ret2
  exact ⟨rfl, Below.refl _ _⟩
theorem fo_cut {a : Int} (h : a.natAbs ≤ 9007199254740992) : Fl.cutI (floatOfInt .f64 a) = a := by
  have hi := Fl.fo_is h
  have hn : Fl.neg (floatOfInt .f64 a) = decide (a < 0) := hi.neg_
  have hv := hi.rung_.2
  unfold Fl.cutI Fl.cutN
  rw [hv, Nat.mul_div_cancel _ (Fl.p2_pos 1074), hn]
  by_cases h0 : a < 0
  · rw [decide_eq_true h0, if_pos rfl]; omega
  · rw [decide_eq_false h0]; simp; omega
theorem fo_in {a : Int} (h : -32768 ≤ a ∧ a ≤ 32767) : ¬ Fl.isNaN (floatOfInt .f64 a) ∧ Fl.low16 (floatOfInt .f64 a) = true ∧ Fl.high16 (floatOfInt .f64 a) = true := by
  have hi := Fl.fo_is (n := a) (by omega)
  have hu : Fl.units (floatOfInt .f64 a) = a * ((Fl.p2 1074 : Nat) : Int) := Fl.ofInt_units (by omega)
  refine ⟨hi.not_nan, ?_, ?_⟩
  · unfold Fl.low16; rw [hu, decide_eq_true_iff, Fl.mul_lt_p2]; omega
  · unfold Fl.high16; rw [hu, decide_eq_true_iff, Fl.mul_lt_p2]; omega
def DrawnWholes (w : World) (e : Ending) (w' : World) : Prop :=
  ∃ x a b : Int, e = .returned (.tuple #[.int .i64 x, .int .i16 a, .int .i16 b]) ∧ (-32768 ≤ a ∧ a ≤ 32767) ∧ (-32768 ≤ b ∧ b ≤ 32767) ∧ Below w.heap.size w w'
set_option maxRecDepth 100000 in
set_option maxHeartbeats 400000 in
theorem drawWholeCmp_any (aa : Option Addr) (n c : Nat) (w : World) (h : IsCode w aa n c) : Calls Try.prog 4 #[.slice aa n c] w (DrawnWholes w) := by
  go_enter Try.func4, Try.ntmps4
  go_wp2_with fail
  refine (open_any aa n c w h).mono ?_
  rintro e w1 ⟨rfl, hr1, hb1, hs1⟩
  go_wp2_with fail
  refine (l3Op_any w1 w.heap.size 0 hr1 (by omega)).mono ?_
  rintro e w2 ⟨x, rfl, _, hr2, ho2⟩
  go_wp2_with fail
  refine (l3Whole_any w2 w.heap.size (0 + 2) hr2 (by omega)).mono ?_
  rintro e w3 ⟨a, rfl, ha, hr3, ho3⟩
  go_wp2_with fail
  refine (pick_any w3 w.heap.size _ 3 hr3 (by omega)).mono ?_
  rintro e w4 ⟨y, rfl, _, _, _, hr4, ho4⟩
  have hB : Below w.heap.size w w4 := Only.below hb1 ((ho2.trans ho3).trans ho4) hb1.size (Nat.le_refl _)
  clear hr1 hr2 hr3 ho2 ho3 ho4 hb1 h
  by_cases hz : y = 0
  · subst hz
    go_wp2
    go_ret3
    exact ⟨x, a, _, rfl, ha, ha, hB⟩
  · have hz' : (y == 0) = false := by simpa using hz
    go_wp2_with fail
    refine (l3Whole_any w4 w.heap.size _ hr4 (by omega)).mono ?_
    rintro e w5 ⟨b, rfl, hb, hr5, ho5⟩
    clear hr4
    go_wp2
    go_ret3
    exact ⟨x, a, b, rfl, ha, hb, Only.below hB ho5 hB.size (Nat.le_refl _)⟩
set_option maxRecDepth 100000 in
set_option maxHeartbeats 400000 in
theorem drawRealWhole_any (aa : Option Addr) (n c : Nat) (w : World) (h : IsCode w aa n c) : Calls Try.prog 6 #[.slice aa n c] w fun e w' => ∃ b : Nat, e = .returned (.float .f64 b) ∧ b < 18446744073709551616 ∧ Below w.heap.size w w' := by
  go_enter Try.func6, Try.ntmps6
  go_wp2_with fail
  refine (open_any aa n c w h).mono ?_
  rintro e w1 ⟨rfl, hr1, hb1, hs1⟩
  go_wp2_with fail
  refine (l3Real_any w1 w.heap.size 0 hr1 (by omega)).mono ?_
  rintro e w2 ⟨b, rfl, hb, hr2, ho2⟩
  have hB : Below w.heap.size w w2 := Only.below hb1 ho2 hb1.size (Nat.le_refl _)
  clear hr1 hr2 ho2 hb1 h
  go_wp2
  go_ret
  exact ⟨b, rfl, hb, hB⟩
theorem fo_m1 : floatOfInt .f64 (-1) = 13830554455654793216 := by decide
theorem fo_1 : floatOfInt .f64 1 = 4607182418800017408 := by decide
theorem fo_0 : floatOfInt .f64 0 = 0 := by decide
set_option maxRecDepth 100000 in
set_option maxHeartbeats 400000 in
theorem FnRealWhole_some (AA : Option Addr) (n c : Nat) (w : World) (h : IsCode w AA n c) (hn : n ≤ 1048576) : Calls Try.prog 3 #[.slice AA n c] w fun e w' => e = .returned (.bool true) ∧ Below w.heap.size w w' := by
  have hd : decide ((1048576 : Int) < (n : Int)) = false := by simp; omega
  go_enter Try.func3, Try.ntmps3
  go_wp2_with fail
  refine (drawWholeCmp_any AA n c w h).mono ?_
  rintro e w1 ⟨x, a, b, rfl, ha, hb, hbel⟩
  have h2 : IsCode w1 AA n c := h.below hbel
  obtain ⟨f1, f2, f3⟩ := fo_in ha
  have f4 := fo_cut (a := a) (by omega)
  have hrw := fun w => rw_in (floatOfInt .f64 a) f1 f2 f3 w
  rw [f4] at hrw
  clear f1 f2 f3 f4 h ha hb
  go_wp2_with fail
  refine (hrw _).mono ?_
  rintro e w2 ⟨rfl, hb2⟩
  have h3 : IsCode w2 AA n c := h2.below hb2
  have hB2 := Bx.bel_step hbel hb2 hbel.size
  clear hbel hb2 h2 hrw
  go_wp2_with fail
  refine (drawRealWhole_any AA n c _ h3).mono ?_
  rintro e w3 ⟨x, rfl, hx, hb3⟩
  have hB3 := Bx.bel_step hB2 hb3 hB2.size
  clear hB2 hb3 h3 hx
  by_cases hnan : Fl.isNaN x
  · have q1 := Fl.ord_nan_l hnan
    go_wp2_with fail
    refine (rw_nan x hnan _).mono ?_
    rintro e w4 ⟨rfl, hb4⟩
    have hB4 := Bx.bel_step hB3 hb4 hB3.size
    clear hnan hb4
    go_wp2
    go_ret
    exact ⟨rfl, hB4⟩
  by_cases hout : Fl.low16 x = false ∨ Fl.high16 x = false
  · have q1 := Fl.spec_low hnan
    have q2 := Fl.spec_high hnan
    go_wp2_with fail
    refine (rw_out x hnan hout _).mono ?_
    rintro e w4 ⟨rfl, hb4⟩
    have hB4 := Bx.bel_step hB3 hb4 hB3.size
    clear hnan hb4
    cases hl : Fl.low16 x with
    | false =>
      rw [hl] at q1
      clear hout hl
      go_wp2
      go_ret
      exact ⟨rfl, hB4⟩
    | true =>
      have hh : Fl.high16 x = false := by rcases hout with h | h; rw [hl] at h; cases h; exact h
      rw [hl] at q1
      rw [hh] at q2
      clear hout hl hh
      go_wp2
      go_ret
      exact ⟨rfl, hB4⟩
  · have hl : Fl.low16 x = true := by cases h : Fl.low16 x; exact absurd (.inl h) hout; rfl
    have hh : Fl.high16 x = true := by cases h : Fl.high16 x; exact absurd (.inr h) hout; rfl
    obtain ⟨hf, hc1, hc2⟩ := Fl.in16_fin hnan hl hh
    obtain ⟨r, hr, hrn, hru⟩ := Fl.sub_cut hf (by omega)
    obtain ⟨s1, s2, s3, s4⟩ := Fl.rest_side (x := x)
    rw [← hru] at s1 s2 s3 s4
    have er := fun (w : World) (t : TypeId) => run_float_arith (P := Try.prog) w .sub t .f64 _ _ _ hr
    have hrw := fun w => rw_in x hnan hl hh w
    have o1 : (FloatKind.f64.format.order r 13830554455654793216 == some .gt) = true := by
      rw [← fo_m1, Fl.ord_fo hrn (by omega), Fl.gt_of_cmp, decide_eq_true_iff]; omega
    have o2 : (FloatKind.f64.format.order r 4607182418800017408 == some .lt) = true := by
      rw [← fo_1, Fl.ord_fo hrn (by omega), Fl.lt_of_cmp, decide_eq_true_iff]; omega
    have o3 : (FloatKind.f64.format.order x 0 == some .lt) = decide (Fl.units x < 0) := by
      have := Fl.ord_fo hnan (n := 0) (by omega); rw [fo_0] at this; rw [this, Fl.lt_of_cmp, Int.zero_mul]
    have o4 : (FloatKind.f64.format.order r 0 == some .gt || FloatKind.f64.format.order r 0 == some .eq) = decide (0 ≤ Fl.units r) := by
      have := Fl.ord_fo hrn (n := 0) (by omega); rw [fo_0] at this; rw [this, Fl.ge_of_cmp, Int.zero_mul]
    have o5 : (FloatKind.f64.format.order x 0 == some .gt) = decide (0 < Fl.units x) := by
      have := Fl.ord_fo hnan (n := 0) (by omega); rw [fo_0] at this; rw [this, Fl.gt_of_cmp, Int.zero_mul]
    have o6 : (FloatKind.f64.format.order r 0 == some .lt || FloatKind.f64.format.order r 0 == some .eq) = decide (Fl.units r ≤ 0) := by
      have := Fl.ord_fo hrn (n := 0) (by omega); rw [fo_0] at this; rw [this, Fl.le_of_cmp, Int.zero_mul]
    generalize Fl.cutI x = cx at *
    clear hr hru s1 s2 hout hl hh hf hnan hrn
    go_wp2_with fail
    refine (hrw _).mono ?_
    rintro e w4 ⟨rfl, hb4⟩
    have hB4 := Bx.bel_step hB3 hb4 hB3.size
    clear hb4 hB3 hrw
    by_cases t1 : Fl.units x < 0
    · rw [decide_eq_true t1] at o3
      rw [decide_eq_false (by omega)] at o5
      rw [decide_eq_true (by omega)] at o6
      clear o4 s3 s4 t1
      go_wp2
      go_ret
      exact ⟨rfl, hB4⟩
    · rw [decide_eq_false t1] at o3
      rw [decide_eq_true (by omega)] at o4
      by_cases t2 : 0 < Fl.units x
      · rw [decide_eq_true t2] at o5
        clear o6 s3 s4 t1 t2
        go_wp2
        go_ret
        exact ⟨rfl, hB4⟩
      · rw [decide_eq_false t2] at o5
        rw [decide_eq_true (by omega)] at o6
        clear s3 s4 t1 t2
        go_wp2
        go_ret
        exact ⟨rfl, hB4⟩
theorem FnRealWhole_great (AA : Option Addr) (n c : Nat) (hn : 1048576 < n) (w : World) : Calls Try.prog 3 #[.slice AA n c] w fun e w' => e = .returned (.bool true) ∧ Below w.heap.size w w' := by
  have hd : decide ((1048576 : Int) < (n : Int)) = true := by simp; omega
  go_enter Try.func3, Try.ntmps3
  go_wp2
  go_ret
  exact ⟨rfl, Below.refl _ _⟩
theorem FnRealWhole_walk (a0 : Option Addr) (len0 cap0 : Nat) (z0 : List Int) (w : World) (w0 : IsRow .u8 w a0 len0 cap0 z0) : Calls Try.prog 3 #[.slice a0 len0 cap0] w fun e w' => e = .returned (.bool true) ∧ Below w.heap.size w w' := by
  by_cases hn : len0 ≤ 1048576
  · exact FnRealWhole_some a0 len0 cap0 w (isCode_of w0) hn
  · exact FnRealWhole_great a0 len0 cap0 (by omega) w
end Go.Proofs.Ytobbkebjgjeglaa
