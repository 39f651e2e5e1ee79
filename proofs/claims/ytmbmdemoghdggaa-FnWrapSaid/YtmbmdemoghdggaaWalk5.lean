/- The walk of FnWrap: the law returns true and changes nothing that was there. -/
import Derived.Test.YtmbmdemoghdggaaRows
import Derived.Test.YtmbmdemoghdggaaWDraw2
import Derived.Test.YtmbmdemoghdggaaWalk4
import Derived.WalkKit
import Derived.WalkSpells
import Derived.WalkLawsBesides
import Derived.OpenShut
import Derived.Lib.Hide
namespace Go.Proofs.Ytmbmdemoghdggaa
open Go.RowKit Rdr
set_option linter.unusedVariables false

set_option maxRecDepth 100000 in
set_option maxHeartbeats 400000 in
theorem wc_add (a b : Int) (w : World) : Calls Try.prog 31 #[.int .i64 1, .int .i16 a, .int .i16 b] w fun e w' => e = .returned (.tuple #[.int .i16 (IntKind.i16.wrap (a + b)), .bool true]) ∧ w = w' := by
  go_enter Try.func31, Try.ntmps31
  go_wp2
  go_ret2
  exact ⟨rfl, rfl⟩
set_option maxRecDepth 100000 in
set_option maxHeartbeats 400000 in
theorem wc_sub (a b : Int) (w : World) : Calls Try.prog 31 #[.int .i64 2, .int .i16 a, .int .i16 b] w fun e w' => e = .returned (.tuple #[.int .i16 (IntKind.i16.wrap (a - b)), .bool true]) ∧ w = w' := by
  go_enter Try.func31, Try.ntmps31
  go_wp2
  go_ret2
  exact ⟨rfl, rfl⟩
set_option maxRecDepth 100000 in
set_option maxHeartbeats 400000 in
theorem wc_mul (a b : Int) (w : World) : Calls Try.prog 31 #[.int .i64 3, .int .i16 a, .int .i16 b] w fun e w' => e = .returned (.tuple #[.int .i16 (IntKind.i16.wrap (a * b)), .bool true]) ∧ w = w' := by
  go_enter Try.func31, Try.ntmps31
  go_wp2
  go_ret2
  exact ⟨rfl, rfl⟩
set_option maxRecDepth 100000 in
set_option maxHeartbeats 400000 in
theorem wc_div (a b : Int) (hz : ¬ b = 0) (w : World) : Calls Try.prog 31 #[.int .i64 4, .int .i16 a, .int .i16 b] w fun e w' => e = .returned (.tuple #[.int .i16 (IntKind.i16.wrap (a.tdiv b)), .bool true]) ∧ w = w' := by
  have e0 : (b == 0) = false := by simpa using hz
  have e1 : (b != 0) = true := by simpa using hz
  go_enter Try.func31, Try.ntmps31
  go_wp2
  go_ret2
  exact ⟨rfl, rfl⟩
set_option maxRecDepth 100000 in
set_option maxHeartbeats 400000 in
theorem wc_rem (a b : Int) (hz : ¬ b = 0) (w : World) : Calls Try.prog 31 #[.int .i64 5, .int .i16 a, .int .i16 b] w fun e w' => e = .returned (.tuple #[.int .i16 (a.tmod b), .bool true]) ∧ w = w' := by
  have e0 : (b == 0) = false := by simpa using hz
  have e1 : (b != 0) = true := by simpa using hz
  go_enter Try.func31, Try.ntmps31
  go_wp2
  go_ret2
  exact ⟨rfl, rfl⟩
set_option maxRecDepth 100000 in
set_option maxHeartbeats 400000 in
theorem wc_div0 (a b : Int) (hz : b = 0) (w : World) : Calls Try.prog 31 #[.int .i64 4, .int .i16 a, .int .i16 b] w fun e w' => e = .returned (.tuple #[.int .i16 0, .bool false]) ∧ w = w' := by
  subst hz
  go_enter Try.func31, Try.ntmps31
  go_wp2
  go_ret2
  exact ⟨rfl, rfl⟩
set_option maxRecDepth 100000 in
set_option maxHeartbeats 400000 in
theorem wc_rem0 (a b : Int) (hz : b = 0) (w : World) : Calls Try.prog 31 #[.int .i64 5, .int .i16 a, .int .i16 b] w fun e w' => e = .returned (.tuple #[.int .i16 0, .bool false]) ∧ w = w' := by
  subst hz
  go_enter Try.func31, Try.ntmps31
  go_wp2
  go_ret2
  exact ⟨rfl, rfl⟩
/-- A DRAW OF WHAT IS RECKONED: a number and two whole ones; nothing that was there turns. -/
def DrawnWhole (w : World) (e : Ending) (w' : World) : Prop :=
  ∃ x a b : Int, e = .returned (.tuple #[.int .i64 x, .int .i16 a, .int .i16 b]) ∧ (-32768 ≤ a ∧ a ≤ 32767) ∧ (-32768 ≤ b ∧ b ≤ 32767) ∧ Below w.heap.size w w'
set_option maxRecDepth 100000 in
set_option maxHeartbeats 400000 in
theorem drawWholeCalc_any (aa : Option Addr) (n c : Nat) (w : World) (h : IsCode w aa n c) : Calls Try.prog 32 #[.slice aa n c] w (DrawnWhole w) := by
  go_enter Try.func32, Try.ntmps32
  go_wp2_with fail
  refine (open_any aa n c w h).mono ?_
  rintro e w1 ⟨rfl, hr1, hb1, hs1⟩
  go_wp2_with fail
  refine (l3Op_any w1 w.heap.size 0 hr1 (by omega)).mono ?_
  rintro e w2 ⟨x, rfl, _, hr2, ho2⟩
  go_wp2_with fail
  refine (l3Whole_any w2 w.heap.size _ hr2 (by omega)).mono ?_
  rintro e w3 ⟨a, rfl, ha, hr3, ho3⟩
  go_wp2_with fail
  refine (pick_any w3 w.heap.size _ 3 hr3 (by omega)).mono ?_
  rintro e w4 ⟨y, rfl, _, _, _, hr4, ho4⟩
  have hB : Below w.heap.size w w4 := Only.below hb1 ((ho2.trans ho3).trans ho4) hb1.size (Nat.le_refl _)
  clear hr1 hr2 hr3 ho2 ho3 ho4 hb1 h
  by_cases hz : y = 0
  · subst hz
    go_wp2_with fail
    refine (pick_any w4 w.heap.size _ 9 hr4 (by omega)).mono ?_
    rintro e w5 ⟨z, rfl, hz0, hz9, _, hr5, ho5⟩
    have hz9 := hz9 (by omega)
    clear hr4
    go_wp2
    go_ret3
    exact ⟨x, a, _, rfl, ha, by omega, Only.below hB ho5 hB.size (Nat.le_refl _)⟩
  · have hz' : (y == 0) = false := by simpa using hz
    go_wp2_with fail
    refine (l3Whole_any w4 w.heap.size _ hr4 (by omega)).mono ?_
    rintro e w5 ⟨b, rfl, hb, hr5, ho5⟩
    clear hr4
    go_wp2
    go_ret3
    exact ⟨x, a, b, rfl, ha, hb, Only.below hB ho5 hB.size (Nat.le_refl _)⟩

theorem wrap_back (a b : Int) (ha : -32768 ≤ a ∧ a ≤ 32767) : IntKind.i16.wrap (IntKind.i16.wrap (a + b) - b) = a := by rw [Fl.wrap_i16, Fl.wrap_i16]; omega
theorem wrap_k (x : Int) : ∃ k, IntKind.i16.wrap x = x - 65536 * k := ⟨(x + 32768) / 65536, by rw [Fl.wrap_i16]; omega⟩
theorem wrap_all (a b : Int) (ha : -32768 ≤ a ∧ a ≤ 32767) : IntKind.i16.wrap (IntKind.i16.wrap (IntKind.i16.wrap (a.tdiv b) * b) + a.tmod b) = a := by
  obtain ⟨k1, e1⟩ := wrap_k (a.tdiv b)
  obtain ⟨k3, e3⟩ := wrap_k (IntKind.i16.wrap (a.tdiv b) * b)
  rw [e3, e1]
  have h1 : (a.tdiv b - 65536 * k1) * b = a.tdiv b * b - 65536 * (k1 * b) := by rw [Int.sub_mul, Int.mul_assoc]
  have h2 := Int.tmod_add_mul_tdiv a b
  rw [Int.mul_comm] at h2
  rw [h1, Fl.wrap_i16]
  omega

set_option maxRecDepth 100000 in
set_option maxHeartbeats 400000 in
theorem FnWrap_some (aa : Option Addr) (n c : Nat) (w : World) (h : IsCode w aa n c) (hn : n ≤ 1048576) : Calls Try.prog 12 #[.slice aa n c] w fun e w' => e = .returned (.bool true) ∧ Below w.heap.size w w' := by
  have hd : decide ((1048576 : Int) < (n : Int)) = false := by simp; omega
  go_enter Try.func12, Try.ntmps12
  go_wp2_with fail
  refine (drawWholeCalc_any aa n c w h).mono ?_
  rintro e w1 ⟨x, a, b, rfl, ha, hb, hbel⟩
  clear h
  have q1 := wrap_back a b ha
  have q2 : IntKind.i16.wrap (b + a) = IntKind.i16.wrap (a + b) := by rw [Int.add_comm]
  have q3 : IntKind.i16.wrap (b * a) = IntKind.i16.wrap (a * b) := by rw [Int.mul_comm]
  have q4 := wrap_all a b ha
  clear ha hb
  by_cases hz : b = 0
  · have e0 : (b == 0) = true := by simpa using hz
    have e1 : (b != 0) = false := by simpa using hz
    have HZ := Lib.hid hz
    clear hz
    go_wp2_with fail
    refine (wc_add a b w1).mono ?_
    rintro e w' ⟨rfl, rfl⟩
    go_wp2_with fail
    refine (wc_sub _ b w1).mono ?_
    rintro e w' ⟨rfl, rfl⟩
    go_wp2_with fail
    refine (wc_add b a w1).mono ?_
    rintro e w' ⟨rfl, rfl⟩
    go_wp2_with fail
    refine (wc_mul a b w1).mono ?_
    rintro e w' ⟨rfl, rfl⟩
    go_wp2_with fail
    refine (wc_mul b a w1).mono ?_
    rintro e w' ⟨rfl, rfl⟩
    go_wp2_with fail
    refine (wc_div0 a b HZ.out w1).mono ?_
    rintro e w' ⟨rfl, rfl⟩
    go_wp2_with fail
    refine (wc_rem0 a b HZ.out w1).mono ?_
    rintro e w' ⟨rfl, rfl⟩
    go_wp2_with fail
    refine (wc_mul 0 b w1).mono ?_
    rintro e w' ⟨rfl, rfl⟩
    go_wp2_with fail
    refine (wc_add _ 0 w1).mono ?_
    rintro e w' ⟨rfl, rfl⟩
    go_wp2
    go_ret
    exact ⟨rfl, hbel⟩
  · have e0 : (b == 0) = false := by simpa using hz
    have e1 : (b != 0) = true := by simpa using hz
    go_wp2_with fail
    refine (wc_add a b w1).mono ?_
    rintro e w' ⟨rfl, rfl⟩
    go_wp2_with fail
    refine (wc_sub _ b w1).mono ?_
    rintro e w' ⟨rfl, rfl⟩
    go_wp2_with fail
    refine (wc_add b a w1).mono ?_
    rintro e w' ⟨rfl, rfl⟩
    go_wp2_with fail
    refine (wc_mul a b w1).mono ?_
    rintro e w' ⟨rfl, rfl⟩
    go_wp2_with fail
    refine (wc_mul b a w1).mono ?_
    rintro e w' ⟨rfl, rfl⟩
    go_wp2_with fail
    refine (wc_div a b hz w1).mono ?_
    rintro e w' ⟨rfl, rfl⟩
    go_wp2_with fail
    refine (wc_rem a b hz w1).mono ?_
    rintro e w' ⟨rfl, rfl⟩
    go_wp2_with fail
    refine (wc_mul _ b w1).mono ?_
    rintro e w' ⟨rfl, rfl⟩
    go_wp2_with fail
    refine (wc_add _ _ w1).mono ?_
    rintro e w' ⟨rfl, rfl⟩
    go_wp2
    go_ret
    exact ⟨rfl, hbel⟩
set_option maxRecDepth 100000 in
set_option maxHeartbeats 400000 in
theorem FnWrap_great (aa : Option Addr) (n c : Nat) (hn : 1048576 < n) (w : World) : Calls Try.prog 12 #[.slice aa n c] w fun e w' => e = .returned (.bool true) ∧ Below w.heap.size w w' := by
  go_enter Try.func12, Try.ntmps12
  go_wp2
  go_ret
  exact ⟨rfl, Below.refl _ _⟩
theorem FnWrap_walk (a0 : Option Addr) (len0 cap0 : Nat) (z0 : List Int) (w : World) (w0 : IsRow .u8 w a0 len0 cap0 z0) : Calls Try.prog 12 #[.slice a0 len0 cap0] w fun e w' => e = .returned (.bool true) ∧ Below w.heap.size w w' := by
  by_cases h : len0 ≤ 1048576
  · exact FnWrap_some a0 len0 cap0 w (isCode_of w0) h
  · exact FnWrap_great a0 len0 cap0 (by omega) w
end Go.Proofs.Ytmbmdemoghdggaa
